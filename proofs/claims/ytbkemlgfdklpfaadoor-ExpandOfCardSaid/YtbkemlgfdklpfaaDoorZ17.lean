/- Contracts and plain laws on the way to the statement: part 17. -/
import Derived.Test.YtbkemlgfdklpfaaDoorZ10
import Derived.Test.YtbkemlgfdklpfaaDoorZ6
import Derived.Sort.QuietThIn
import Derived.Sort.QuietTacIn
import Derived.Laws.StructEq
import Derived.Test.YtbkemlgfdklpfaaDoorProg
import Derived.Test.YtbkemlgfdklpfaaDoorZ4
set_option linter.unusedVariables false
set_option linter.unusedSimpArgs false
set_option maxRecDepth 100000
set_option maxHeartbeats 16000000
namespace Go.Proofs.YtbkemlgfdklpfaaDoor
open Go.Value (int)
open Go.IntKind (i64)
section
open Go Go.RowKit
variable {P:Program}
theorem MM{F:Fence}{n l:Nat}{o:Oper}{a:Act}{next:Act→World→Prop}{Q:Exit→Act→World→Prop}{r:Result Next}(h:o.uponIn F n P a next Q r):o.uponIn (F.inRound l) n P a next Q r:=by
 cases r with
 | ok x w'=>cases x<;>exact h
 | halt x w'=>cases x<;>exact h
theorem DR{F:Fence}{n l:Nat}{ops:Array Oper}{Q:Exit→Act→World→Prop}(hA:F.round=none)(hd:∀(i:Nat) (o:Oper),ops[i]?=some o→∀c,o.op≠.defer c):∀(is:List Nat) (a:Act) (w:World),wpOpsIn F n P ops Q is a w→wpOpsIn (F.inRound l) n P ops Q is a w
 | [],_,_,h=>h
 | i::rest,a,w,h=>by
  unfold wpOpsIn at h ⊢
  cases ho:ops[i]? with
  | none=>simp only [ho] at h ⊢;exact DR hA hd rest a w h
  | some o =>
   simp only [ho] at h ⊢
   split
   ·rename_i hw
    rw [if_pos hw] at h;have h2:=Oper.wpIn_mono (K':=wpOpsIn (F.inRound l) n P ops Q rest) (λa w h=>DR (l:=l) hA hd rest a w h) h;refine ⟨h2.1,?_⟩;have h3:=h2.2;rw [hA,Oper.semAt_none] at h3;rw [Fence.inRound_round,Oper.semAt_some l _ _ (hd i o ho)];exact MM h3
   ·rename_i hw
    rw [if_neg hw] at h;exact ⟨h.1,DR hA hd rest _ w h.2⟩
def GN(ops:List Oper):Bool:=ops.all λo=>match o.op with|.defer _=>false|_=>true
theorem Fw{l:List Oper}(h:GN l=true)(i:Nat)(o:Oper)(ho:l.toArray[i]?=some o)(c:Call):o.op≠.defer c:=by
 intro e;unfold GN at h;have hm:o∈l:=List.mem_of_getElem? (by simpa using ho);have:=List.all_eq_true.1 h o hm;rw [e] at this;cases this
theorem Dh{n l:Nat}{id:Nat}{Q:Exit→Act→World→Prop}{a:Act}{w:World}{ops:List Oper}(hm:P.follows .mixedOrders=true)(hB:Region.lexB .any ops.toArray=true)(hD:GN ops=true)
  (h:wpQuietIn Fence.wide n P ops.toArray (λw'=>∃n,w'=w.drewN n) (λa'=>∀w',(∃n,w'=w.drewN n)→Q .normal a' w') ops a):(Code.region id ops.toArray true).wpIn (Fence.wide.inRound l) n P Q a w:=by
 simp only [Region.lexB,Bool.and_eq_true] at hB;refine wpIn_region_draw λt=>DR rfl (Fw hD) _ _ _ ?_
 have hA:wpAnyIn Fence.wide n P .any ops.toArray Q ops.toArray.size (Array.replicate ops.toArray.size false) a { w with drawn:=w.drawn+1 }:=by
  refine wpAnyIn_of_quiet (C:=λw'=>∃n,w'=w.drewN n) (Q:=λa'=>∀w',(∃n,w'=w.drewN n)→Q .normal a' w') rfl (λ_ w' hC h=>h w' hC) _ _ _ _ ⟨1,rfl⟩ ?_;have:=wpAnyQIn_lex (F:=Fence.wide) (n:=n) (C:=λw'=>∃n,w'=w.drewN n) (md:=.any) hB.1 ops 0 (Array.replicate ops.toArray.size false) a (by simp) (by simpa using hB.2) h;simpa using this
 simp only [Region.schedule,hm,Bool.true_or,if_true];exact wpAnyIn_sound ops.toArray.size t _ a _ hA
theorem Tn(s:Nm)(n:Int)(w:World):(binOp .eql 60 (.agg #[sv s,int i64 n]) (.agg #[.string ⟨#[]⟩,int i64 0])).run Tryd.prog w=.ok (.bool (decide (s=[]∧n=0))) w:=by
 have u3:=Tryd.underlying3;have a3:=Tryd.isAgg3;have z3:=Tryd.sizeOf3;have u9:=Tryd.underlying9;have a9:=Tryd.isAgg9;have z9:=Tryd.sizeOf9;have hS:Tryd.prog.underlying 60=some (.struct (Tryd.prog.fieldsOf 60)):=by kernel_rfl
 have hp:Tryd.prog.stoodInHeld 60=false:=by kernel_rfl
 rw [run_eql_struct,show (10000:Nat)=9999+1 from rfl,run_equalIn_agg w 9999 60 _ _ hS hp];simp only [Program.fieldsOf,Tryd.underlying60];go_simp;by_cases h1:s=[]<;>by_cases h2:n=0<;>simp [h1,h2]
end
end Go.Proofs.YtbkemlgfdklpfaaDoor
