/- Contracts and plain laws on the way to the statement: part 5. -/
import Derived.Deep.Draws
import Derived.RangeFuncBound
import Derived.RangeFuncCalls
import Derived.RangeFuncLeaves
import Derived.RangeFuncNested
import Derived.Test.YtbkemlgfdklpfaaGreatDoorV4
set_option linter.unusedVariables false
set_option linter.unusedSimpArgs false
set_option maxRecDepth 100000
set_option maxHeartbeats 16000000
namespace Go.Proofs.YtbkemlgfdklpfaaGreatDoor
open Go.Value (int)
open Go.IntKind (i64)
section
open Go Go.RowKit
open Go Go.RowKit
def Jq{β:Type}(own:Nat→Prop)(J:β→World→Prop):Prop :=
 (∀s W b v,own b→J s W→J s (W.setCell ⟨b,0,none⟩ v))∧∀s W k,J s W→J s (W.drewN k)
def OI{α:Type}(own:Nat→Prop)(I:List α→World→Prop)(xs:List α)(W:World):Exit→Act→World→Prop
 | .normal,_,W'=>KeepsOthers W W'∧(∀b,own b→W'.heap[b]?=W.heap[b]?)∧I xs W'
 | _,_,_=>False
variable {F:Fence} {n:Nat} {P:Program}
theorem Eo{α:Type}{g:Operand}{ps:Array Go.Tmp}{assign body:Code}{Q:Exit→Act→World→Prop}{a:Act}{w:World}
  (hH:F.round=none) (h1:1≤n) {gf:Nat} {lb:Array Value} (hg:a.eval g=.func (.func gf) #[] lb) (hJ:F.fn gf) (eg:∀args w,(callFunc gf args).run P w=.ok (.enter gf args) w)
  {encs:α→Array Value} (own:Nat→Prop) (hB:∀b,own b→b<w.heap.size) {S:List α→Prop}
  (hE:∀(l:Nat) (J:List α→World→Prop) (W:World),Below w.heap.size w W→Jq own J →
   (∀pre x W1,J pre W1→YieldAt F (n-1-1) P l (encs x) W1 λe W'=>e=.returned (.bool true)∧J (pre++[x]) W'∧∀b,own b→W'.heap[b]?=W1.heap[b]?)→J [] W →
   CallsIn F (n-1) P gf (#[.func (.yield l) #[] #[]]++lb) W λe W'=>(∃v,e=.returned v)∧∃xs,S xs∧J xs W')
  (hK:∀x,(encs x).size=ps.size)
  (I:List α→World→Prop) (hI:OwnFrom w.heap.size I) (hF:Jq own I) (h0:I [] w) (a₁:α→Act)
  (hassign:∀(l:Nat) (x:α) (W:World) (K:Act→World→Prop),K (a₁ x) W →
   assign.wpIn (F.inRound l) (n-1-1) P (Exit.then K (λ_ _ _=>False)) { tmps:=(ps.zip (encs x)).foldl (λt (p,v)=>t.setIfInBounds p v) a.tmps,defers:=[] } W)
  (hbody:∀(l:Nat) (pre:List α) (x:α) (W:World),I pre W→body.wpIn (F.inRound l) (n-1-1) P (OI own I (pre++[x]) W) (a₁ x) W)
  (hdone:∀(D:Nat) (xs:List α) (W:World),w.heap.size≤D→S xs→I xs W→W.heap[D]?=some (.deferred (some []))→Q .normal { a with defers:={ target:=.collected D,args:=#[] }::a.defers } W) :
  (Code.rangeFunc g ps assign body).wpIn F n P Q a w:=by
 refine wpIn_rangeFunc λfn hM=>?_
 rw [hH];generalize hA:(λ(st:LoopState)=>({ state:=st,pending:=none,fn:=fn,tmps:=a.tmps,params:=ps,assign:=assign,body:=body,defers:=w.heap.size }:Loop))=rec;have er:∀st,({ state:=st,pending:=none,fn:=fn,tmps:=a.tmps,params:=ps,assign:=assign,body:=body,defers:=w.heap.size }:Loop)=rec st:=λst=>by rw [← hA]
 generalize hC:(w.alloc (.deferred (some []))).alloc (.loop (rec .ready))=W1
 have hL:W1.heap[w.heap.size+1]?=some (.loop (rec .ready)):=by
  rw [← hC];have:=World.alloc_heap_new (w.alloc (.deferred (some []))) (.loop (rec .ready));rwa [World.size_alloc] at this
 have hD:W1.heap[w.heap.size]?=some (.deferred (some [])):=by
  rw [← hC];exact (Below.heap_alloc _ _ _ (by simp)).trans (World.alloc_heap_new w _)
 have hI1:I [] W1:=by rw [← hC];exact hI.alloc _ (hI.alloc _ h0)
 have hN:Below w.heap.size w W1:=by rw [← hC];exact ((Below.refl _ w).alloc (qn _) _).alloc (by simp) _
 refine ⟨w.heap.size+1,[{ target:=.collected w.heap.size,args:=#[] }],W1,{ target:=.fn (.func gf) lb,args:=#[.func (.yield (w.heap.size+1)) #[] #[]] },W1,gf,#[.func (.yield (w.heap.size+1)) #[] #[]]++lb,W1,?_,?_,?_,?_,λ_=>h1,?_⟩
 ·rw [run_enterLoop_outer,er,hC]
 ·simp only [resolve,hg]
  simp [go_sem]
 ·intro f' hG;simp [Target.leads] at hG;subst hG;exact hJ
 ·simp [invoke,go_sem,eg]
 ·refine (hE (w.heap.size+1) (λpre W=>I pre W∧W.heap[w.heap.size+1]?=some (.loop (rec .ready))∧W.heap[w.heap.size]?=some (.deferred (some []))) W1 hN ⟨?_,?_⟩ ?_ ⟨hI1,hL,hD⟩).mono ?_
  ·rintro s W b v hb ⟨i1,i2,i3⟩
   have:=hB b hb;exact ⟨hF.1 s W b v hb i1,(Below.heap_setCell _ _ _ _ (by show w.heap.size+1≠b;omega)).trans i2,(Below.heap_setCell _ _ _ _ (by show w.heap.size≠b;omega)).trans i3⟩
  ·rintro s W k ⟨i1,i2,i3⟩
   exact ⟨hF.2 s W k i1,i2,i3⟩
  ·rintro pre x W ⟨i1,i2,i3⟩
   have hy:=run_yield (P:=P) (args:=encs x) i2 (by rw [← hA];exact hK x);rw [← hA] at hy;refine ⟨fn,_,assign,body,hy,roundIn_of_wpIn hM (hassign _ x W _ ⟨_,run_beginRound i2 (by rw [← hA]),?_⟩)⟩;have hb:({ rec .ready with state:=.busy }:Loop)=rec .busy:=by rw [← hA]
   rw [hb];have hO:w.heap.size+1<W.heap.size:=(qs.1 i2).1;have j2:(W.putObj (w.heap.size+1) (.loop (rec .busy))).heap[w.heap.size+1]?=some (.loop (rec .busy)):=World.putObj_heap_same hO;have j3:(W.putObj (w.heap.size+1) (.loop (rec .busy))).heap[w.heap.size]?=some (.deferred (some [])):=(World.putObj_heap_other (by omega)).trans i3;refine wpIn_mono (hbody _ pre x _ (hI.putObj _ i1 (by omega) i2 rfl)) ?_;intro e a3 W3 hp
   cases e with
   | normal =>
    obtain ⟨k1,k2,k3⟩:=hp;have l2:=k1.same _ _ j2 rfl;have l3:=k1.same _ _ j3 rfl;have hr:=run_endRound (P:=P) none l2;have hP:({ rec .busy with state:=if (none:Option Code).isNone=true then LoopState.ready else LoopState.done,pending:=none }:Loop)=rec .ready:=by rw [← hA];rfl
    rw [hP] at hr;refine ⟨_,_,hr,rfl,⟨hI.putObj _ k3 (by omega) l2 rfl,World.putObj_heap_same (qs.1 l2).1,(World.putObj_heap_other (by omega)).trans l3⟩,λb hb=>?_⟩;have:=hB b hb;rw [World.putObj_heap_other (by omega),k2 b hb,World.putObj_heap_other (by omega)]
   | _=>exact hp.elim
  ·rintro e W2 ⟨⟨v,rfl⟩,xs,hS,i1,i2,i3⟩
   have he:=run_endLoop (P:=P) i2 (by rw [← hA];simp);have hp:(rec .ready).pending=none:=by rw [← hA]
   have hQ:({ rec .ready with state:=.exhausted }:Loop)=rec .exhausted:=by rw [← hA]
   rw [hQ,hp] at he;exact ⟨none,_,he,hdone _ xs _ (qn _) hS (hI.putObj _ i1 (by omega) i2 rfl) ((World.putObj_heap_other (by omega)).trans i3)⟩
end
end Go.Proofs.YtbkemlgfdklpfaaGreatDoor
