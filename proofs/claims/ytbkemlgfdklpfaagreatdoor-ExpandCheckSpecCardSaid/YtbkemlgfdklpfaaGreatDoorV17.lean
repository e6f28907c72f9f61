/- Contracts and plain laws on the way to the statement: part 17. -/
import Derived.Test.YtbkemlgfdklpfaaGreatDoorV10
import Derived.Test.YtbkemlgfdklpfaaGreatDoorV6
import Derived.Sort.QuietThIn
import Derived.Sort.QuietTacIn
import Derived.Laws.StructEq
import Derived.Test.YtbkemlgfdklpfaaGreatDoorProg
import Derived.Test.YtbkemlgfdklpfaaGreatDoorV4
set_option linter.unusedVariables false
set_option linter.unusedSimpArgs false
set_option maxRecDepth 100000
set_option maxHeartbeats 16000000
namespace Go.Proofs.YtbkemlgfdklpfaaGreatDoor
open Go.Value (int)
open Go.IntKind (i64)
section
open Go Go.RowKit
variable {P:Program}
theorem Ms{F:Fence}{n l:Nat}{o:Oper}{a:Act}{next:Act→World→Prop}{Q:Exit→Act→World→Prop}{r:Result Next}(h:o.uponIn F n P a next Q r):o.uponIn (F.inRound l) n P a next Q r:=by
 cases r with
 | ok x w'=>cases x<;>exact h
 | halt x w'=>cases x<;>exact h
theorem DE{F:Fence}{n l:Nat}{ops:Array Oper}{Q:Exit→Act→World→Prop}(hA:F.round=none)(hd:∀(i:Nat) (o:Oper),ops[i]?=some o→∀c,o.op≠.defer c):∀(is:List Nat) (a:Act) (w:World),wpOpsIn F n P ops Q is a w→wpOpsIn (F.inRound l) n P ops Q is a w
 | [],_,_,h=>h
 | i::rest,a,w,h=>by
  unfold wpOpsIn at h ⊢
  cases ho:ops[i]? with
  | none=>simp only [ho] at h ⊢;exact DE hA hd rest a w h
  | some o =>
   simp only [ho] at h ⊢
   split
   ·rename_i hw
    rw [if_pos hw] at h;have h2:=Oper.wpIn_mono (K':=wpOpsIn (F.inRound l) n P ops Q rest) (λa w h=>DE (l:=l) hA hd rest a w h) h;refine ⟨h2.1,?_⟩;have h3:=h2.2;rw [hA,Oper.semAt_none] at h3;rw [Fence.inRound_round,Oper.semAt_some l _ _ (hd i o ho)];exact Ms h3
   ·rename_i hw
    rw [if_neg hw] at h;exact ⟨h.1,DE hA hd rest _ w h.2⟩
def Gz(ops:List Oper):Bool:=ops.all λo=>match o.op with|.defer _=>false|_=>true
theorem Fl{l:List Oper}(h:Gz l=true)(i:Nat)(o:Oper)(ho:l.toArray[i]?=some o)(c:Call):o.op≠.defer c:=by
 intro e;unfold Gz at h;have hm:o∈l:=List.mem_of_getElem? (by simpa using ho);have:=List.all_eq_true.1 h o hm;rw [e] at this;cases this
theorem Da{n l:Nat}{id:Nat}{Q:Exit→Act→World→Prop}{a:Act}{w:World}{ops:List Oper}(hm:P.follows .mixedOrders=true)(hB:Region.lexB .any ops.toArray=true)(hD:Gz ops=true)
  (h:wpQuietIn Fence.wide n P ops.toArray (λw'=>∃n,w'=w.drewN n) (λa'=>∀w',(∃n,w'=w.drewN n)→Q .normal a' w') ops a):(Code.region id ops.toArray true).wpIn (Fence.wide.inRound l) n P Q a w:=by
 simp only [Region.lexB,Bool.and_eq_true] at hB;refine wpIn_region_draw λt=>DE rfl (Fl hD) _ _ _ ?_
 have hA:wpAnyIn Fence.wide n P .any ops.toArray Q ops.toArray.size (Array.replicate ops.toArray.size false) a { w with drawn:=w.drawn+1 }:=by
  refine wpAnyIn_of_quiet (C:=λw'=>∃n,w'=w.drewN n) (Q:=λa'=>∀w',(∃n,w'=w.drewN n)→Q .normal a' w') rfl (λ_ w' hC h=>h w' hC) _ _ _ _ ⟨1,rfl⟩ ?_;have:=wpAnyQIn_lex (F:=Fence.wide) (n:=n) (C:=λw'=>∃n,w'=w.drewN n) (md:=.any) hB.1 ops 0 (Array.replicate ops.toArray.size false) a (by simp) (by simpa using hB.2) h;simpa using this
 simp only [Region.schedule,hm,Bool.true_or,if_true];exact wpAnyIn_sound ops.toArray.size t _ a _ hA
theorem Tb(s:Nm)(n:Int)(w:World):(binOp .eql 62 (.agg #[sv s,int i64 n]) (.agg #[.string ⟨#[]⟩,int i64 0])).run Tryz.prog w=.ok (.bool (decide (s=[]∧n=0))) w:=by
 have u3:=Tryz.underlying3;have a3:=Tryz.isAgg3;have z3:=Tryz.sizeOf3;have u9:=Tryz.underlying9;have a9:=Tryz.isAgg9;have z9:=Tryz.sizeOf9;have hS:Tryz.prog.underlying 62=some (.struct (Tryz.prog.fieldsOf 62)):=by kernel_rfl
 have hp:Tryz.prog.stoodInHeld 62=false:=by kernel_rfl
 rw [run_eql_struct,show (10000:Nat)=9999+1 from rfl,run_equalIn_agg w 9999 62 _ _ hS hp];simp only [Program.fieldsOf,Tryz.underlying62];go_simp;by_cases h1:s=[]<;>by_cases h2:n=0<;>simp [h1,h2]
end
end Go.Proofs.YtbkemlgfdklpfaaGreatDoor
