/- Contracts and plain laws on the way to the statement: part 16. -/
import Derived.Test.YtbkemlgfdklpfaaGreatDoorV10
import Derived.Test.YtbkemlgfdklpfaaGreatDoorV8
import Derived.RangeFuncFrom
import Derived.Test.YtbkemlgfdklpfaaGreatDoorV4
set_option linter.unusedVariables false
set_option linter.unusedSimpArgs false
set_option maxRecDepth 100000
set_option maxHeartbeats 16000000
namespace Go.Proofs.YtbkemlgfdklpfaaGreatDoor
open Go.Value (int)
open Go.IntKind (i64)
section
open Go Go.RowKit
variable {F:Fence} {n:Nat} {P:Program}
def F9(ty:TypeId)(W:World)(b:Nat):Prop:=∃cur fr,W.heap[b]?=some (.cells cur ty fr)
structure Mv(B:Nat)(W W':World):Prop where
 os:W'.os=W.os
 tape:W'.tape=W.tape
 output:W'.output=W.output
 size:W.heap.size≤W'.heap.size
 block:∀b,b<W.heap.size→(b<B∨¬F9 3 W b)→W'.heap[b]?=W.heap[b]?
structure MvR(B:Nat)(W W':World):Prop where
 os:W'.os=W.os
 tape:W'.tape=W.tape
 output:W'.output=W.output
 size:W.heap.size≤W'.heap.size
 block:∀b,b<W.heap.size→(b<B∨∃cs ty fr,W.heap[b]?=some (.cells cs ty fr)∧ty≠3)→W'.heap[b]?=W.heap[b]?
theorem Mv.toR{B:Nat}{W W':World}(h:Mv B W W'):MvR B W W':=⟨h.os,h.tape,h.output,h.size,λb hb hc=>h.block b hb (hc.imp_right λ⟨cs,ty,fr,e,ne⟩ ⟨c2,f2,e2⟩=>by rw [e] at e2;injection e2 with e2;injection e2 with _ e2;exact ne e2)⟩
theorem Mv.of_below{B:Nat}{W W':World}(h:Below W.heap.size W W'):Mv B W W':=⟨h.os,h.tape,h.output,h.size,λb hb _=>h.block b hb⟩
theorem Mv.trans{B:Nat}{X Y Z:World}(h:Mv B X Y)(k:Mv B Y Z):Mv B X Z :=
 ⟨k.os.trans h.os,k.tape.trans h.tape,k.output.trans h.output,Nat.le_trans h.size k.size,λb hb hc=>by
  have e:=h.block b hb hc
  refine (k.block b (Nat.lt_of_lt_of_le hb h.size) (hc.imp_right λh1 ⟨c,f,e2⟩=>h1 ⟨c,f,e.symm.trans e2⟩)).trans e⟩
theorem Mv.of_but{B G:Nat}{W W':World}(h:ButOne G W W')(hB:B≤G)(hg:F9 3 W G∨W.heap.size≤G):Mv B W W' :=
 ⟨h.os,h.tape,h.output,h.size,λb hb hc=>h.block b hb (by
  rintro rfl;rcases hc with hc|hc
  ·omega
  ·rcases hg with hg|hg
   ·exact hc hg
   ·omega)⟩
theorem MvR.of_below{B:Nat}{W W':World}(h:Below W.heap.size W W'):MvR B W W':=(Mv.of_below h).toR
theorem MvR.putObj{B l:Nat}{W:World}{o:Obj}(o':Obj)(hB:B≤l)(hl:W.heap[l]?=some o)(ho:o.isCells=false):MvR B W (W.putObj l o') :=
 ⟨rfl,rfl,rfl,by simp [World.putObj],λb hb hc=>World.putObj_heap_other (by
  rintro rfl;rcases hc with hc|⟨cs,ty,fr,e,_⟩
  ·omega
  ·rw [hl] at e;cases e;cases ho)⟩
structure Rnd(B:Nat)(W W':World):Prop where
 size:W.heap.size≤W'.heap.size
 block:∀b,B≤b→b<W.heap.size→¬F9 54 W b→W'.heap[b]?=W.heap[b]?
theorem Rnd.refl(B:Nat)(W:World):Rnd B W W:=⟨qn _,λ_ _ _ _=>rfl⟩
theorem Rnd.trans{B:Nat}{X Y Z:World}(h:Rnd B X Y)(k:Rnd B Y Z):Rnd B X Z:=⟨Nat.le_trans h.size k.size,λb h1 h2 h3=>by
 have e:=h.block b h1 h2 h3
 exact (k.block b h1 (Nat.lt_of_lt_of_le h2 h.size) (λ⟨c,f,e2⟩=>h3 ⟨c,f,e.symm.trans e2⟩)).trans e⟩
def Sm{α:Type}(B:Nat)(I:List α→World→Prop)(Ix:World→Prop)(xs:List α)(W:World):Exit→Act→World→Prop
 | .normal,_,W'=>Rnd B W W'∧I xs W'
 | .ret,_,W'=>Rnd B W W'∧Ix W'
 | _,_,_=>False
def OD{α:Type}(F:Fence)(n:Nat)(P:Program)(gf:Nat)(lb:Array Value)(encs:α→Array Value)(L:List α)(B:Nat)(Rd:World→Prop)(w:World):Prop :=
 ∀(l:Nat) (J:List α→World→Prop) (Jx:World→Prop) (W:World),Below w.heap.size w W→(∀s W W',J s W→Mv B W W'→J s W')→(∀pre W1,J pre W1→Rd W1) →
  (∀pre x rest W1,L=pre++x::rest→J pre W1→∀m,YieldAt F m P l (encs x) W1 λe W'=>(e=.returned (.bool true)∧J (pre++[x]) W'∧Rnd B W1 W')∨(e=.returned (.bool false)∧Jx W'))→J [] W →
  CallsIn F n P gf (#[.func (.yield l) #[] #[]]++lb) W λe W'=>(∃v,e=.returned v)∧(J L W'∨Jx W')
theorem F5{α:Type}{g:Operand}{ps:Array Go.Tmp}{assign body:Code}{Q:Exit→Act→World→Prop}{a:Act}{w:World}
  (h1:1≤n) {gf:Nat} {lb:Array Value} (hg:a.eval g=.func (.func gf) #[] lb) (eg:∀args w,(callFunc gf args).run P w=.ok (.enter gf args) w)
  {encs:α→Array Value} {L:List α} {B:Nat} {Rd:World→Prop} (hJ:OD Fence.wide (n-1) P gf lb encs L B Rd w) (hB:B≤w.heap.size)
  (hQ:∀x,(encs x).size=ps.size)
  (I:List α→World→Prop) (Ix:World→Prop) (hE:∀s W W',I s W→MvR B W W'→I s W') (hK:∀W W',Ix W→MvR B W W'→Ix W') (h0:I [] w) (hR:∀pre W,I pre W→Rd W) (Ax:List α→α→Act→World→Prop)
  (hassign:∀(l:Nat) (pre:List α) (x:α) (W:World) (K:Act→World→Prop),I pre W→(∀a' W',Below W.heap.size W W'→Ax pre x a' W'→K a' W') →
   assign.wpIn (Fence.wide.inRound l) (n-1-1) P (Exit.then K (λ_ _ _=>False)) { tmps:=(ps.zip (encs x)).foldl (λt (p,v)=>t.setIfInBounds p v) a.tmps,defers:=[] } W)
  (hAx:∀pre x a' W W',Ax pre x a' W→MvR B W W'→Ax pre x a' W')
  (hbody:∀(l:Nat) (pre:List α) (x:α) (rest:List α) (a':Act) (W:World),L=pre++x::rest→I pre W→Ax pre x a' W→body.wpIn (Fence.wide.inRound l) (n-1-1) P (Sm B I Ix (pre++[x]) W) a' W)
  (hdone:∀(D:Nat) (W:World),w.heap.size≤D→I L W→W.heap[D]?=some (.deferred (some []))→Q .normal { a with defers:={ target:=.collected D,args:=#[] }::a.defers } W)
  (hstop:∀(D:Nat) (W:World),w.heap.size≤D→Ix W→W.heap[D]?=some (.deferred (some []))→Code.ret.wpIn Fence.wide n P Q { a with defers:={ target:=.collected D,args:=#[] }::a.defers } W) :
  (Code.rangeFunc g ps assign body).wpIn Fence.wide n P Q a w:=by
 refine wpIn_rangeFunc λfn hS=>?_
 rw [show Fence.wide.round=none from rfl];obtain ⟨rec,hA⟩:∃rec:LoopState→Option Code→Loop,rec=λst pe=>{ state:=st,pending:=pe,fn,tmps:=a.tmps,params:=ps,assign,body,defers:=w.heap.size }:=⟨_,rfl⟩
 have er:∀st pe,({ state:=st,pending:=pe,fn:=fn,tmps:=a.tmps,params:=ps,assign:=assign,body:=body,defers:=w.heap.size }:Loop)=rec st pe:=λst pe=>by rw [hA]
 generalize hF:(w.alloc (.deferred (some []))).alloc (.loop (rec .ready none))=W1
 have hL:W1.heap[w.heap.size+1]?=some (.loop (rec .ready none)):=by
  rw [← hF];have:=World.alloc_heap_new (w.alloc (.deferred (some []))) (.loop (rec .ready none));rwa [World.size_alloc] at this
 have hD:W1.heap[w.heap.size]?=some (.deferred (some [])):=by
  rw [← hF];exact (Below.heap_alloc _ _ _ (by simp)).trans (World.alloc_heap_new w _)
 have hM:Below w.heap.size w W1:=by rw [← hF];exact ((Below.refl _ w).alloc (qn _) _).alloc (by simp) _
 have hI1:I [] W1:=hE _ _ _ h0 (MvR.of_below hM);refine ⟨w.heap.size+1,[{ target:=.collected w.heap.size,args:=#[] }],W1,{ target:=.fn (.func gf) lb,args:=#[.func (.yield (w.heap.size+1)) #[] #[]] },W1,gf,#[.func (.yield (w.heap.size+1)) #[] #[]]++lb,W1,?_,?_,?_,?_,λ_=>h1,?_⟩
 ·rw [run_enterLoop_outer,er,hF]
 ·simp only [resolve,hg]
  simp [go_sem]
 ·intro f' hW;trivial
 ·simp [invoke,go_sem,eg]
 ·have nc:∀(o:Obj),o.isCells=false→¬∃cur fr,o=.cells cur 3 fr:=λo ho ⟨c,f,e⟩=>by rw [e] at ho;cases ho
  refine (hJ (w.heap.size+1) (λpre W=>I pre W∧W.heap[w.heap.size+1]?=some (.loop (rec .ready none))∧W.heap[w.heap.size]?=some (.deferred (some [])))
   (λW=>Ix W∧W.heap[w.heap.size+1]?=some (.loop (rec .done (some .ret)))∧W.heap[w.heap.size]?=some (.deferred (some []))) W1 hM ?_ (λpre W h=>hR pre W h.1) ?_ ⟨hI1,hL,hD⟩).mono ?_
  ·rintro s W W' ⟨i1,i2,i3⟩ hb
   exact ⟨hE s W W' i1 hb.toR,(hb.block _ (qs.1 i2).1 (Or.inr λ⟨c,f,e⟩=>by rw [i2] at e;cases e)).trans i2,(hb.block _ (qs.1 i3).1 (Or.inr λ⟨c,f,e⟩=>by rw [i3] at e;cases e)).trans i3⟩
  ·rintro pre x rest W hT ⟨i1,i2,i3⟩ m
   refine YieldAt.anyDepth (m:=n-1-1) rfl m ?_;have hy:=run_yield (P:=P) (args:=encs x) i2 (by rw [hA];exact hQ x);rw [hA] at hy;refine ⟨fn,_,assign,body,hy,roundIn_of_wpIn hS (hassign _ pre x W _ i1 λa' W' hC hU=>?_)⟩;clear hy;have l2:=(qs.1 i2).1;have l3:=(qs.1 i3).1
   replace i1:=hE _ _ _ i1 (MvR.of_below hC)
   have k2:=(hC.block _ l2).trans i2;have k3:=(hC.block _ l3).trans i3;refine ⟨_,run_beginRound k2 (by rw [hA]),?_⟩;have hb:({ rec .ready none with state:=.busy }:Loop)=rec .busy none:=by rw [hA]
   rw [hb];have hN:w.heap.size+1<W'.heap.size:=(qs.1 k2).1;have j2:(W'.putObj (w.heap.size+1) (.loop (rec .busy none))).heap[w.heap.size+1]?=some (.loop (rec .busy none)):=World.putObj_heap_same hN;have j3:(W'.putObj (w.heap.size+1) (.loop (rec .busy none))).heap[w.heap.size]?=some (.deferred (some [])):=(World.putObj_heap_other (by omega)).trans k3;have hG:(W'.putObj (w.heap.size+1) (.loop (rec .busy none))).heap.size=W'.heap.size:=by simp [World.putObj]
   have hO:=MvR.putObj (W:=W') (.loop (rec .busy none)) (show B≤w.heap.size+1 by omega) k2 rfl;refine wpIn_mono (hbody _ pre x rest a' _ hT (hE _ _ _ i1 hO) (hAx _ _ _ _ _ hU hO)) ?_;intro e a3 W3 hp;have fin:∀(jump:Option Code),Rnd B (W'.putObj (w.heap.size+1) (.loop (rec .busy none))) W3 →
     (Instr.endRound (w.heap.size+1) jump).run P W3=.ok (.bool jump.isNone) (W3.putObj (w.heap.size+1) (.loop (rec (if jump.isNone then .ready else .done) jump))) ∧
     W3.heap[w.heap.size+1]?=some (.loop (rec .busy none)) ∧
     (W3.putObj (w.heap.size+1) (.loop (rec (if jump.isNone then .ready else .done) jump))).heap[w.heap.size+1]?=some (.loop (rec (if jump.isNone then .ready else .done) jump)) ∧
     (W3.putObj (w.heap.size+1) (.loop (rec (if jump.isNone then .ready else .done) jump))).heap[w.heap.size]?=some (.deferred (some [])):=λjump hP=>by
    have hH:=(hP.block (w.heap.size+1) (by omega) (by rw [hG];exact hN) (λ⟨c,f,e⟩=>by rw [j2] at e;cases e)).trans j2;have hV:=(hP.block w.heap.size hB (by rw [hG];omega) (λ⟨c,f,e⟩=>by rw [j3] at e;cases e)).trans j3;have:=run_endRound (P:=P) jump hH;rw [hA] at this ⊢;exact ⟨this,by rw [hA] at hH;exact hH,World.putObj_heap_same (qs.1 hH).1,(World.putObj_heap_other (by omega)).trans hV⟩
   cases e with
   | normal =>
    obtain ⟨k1,k3⟩:=hp;obtain ⟨hr,l2',l4,l5⟩:=fin none k1;refine ⟨_,_,hr,.inl ⟨rfl,⟨hE _ _ _ k3 (MvR.putObj _ (by omega) l2' rfl),l4,l5⟩,⟨?_,λb b1 b2 b3=>?_⟩⟩⟩
    ·have e1:=k1.size;rw [hG] at e1;have e2:=hC.size;simpa [World.putObj] using Nat.le_trans e2 e1
    ·have hs:=hC.size
     by_cases hI:b=w.heap.size+1
     ·subst hI;rw [l4,i2];rfl
     ·rw [World.putObj_heap_other hI,k1.block b b1 (by rw [hG];omega) (λ⟨c,f,e⟩=>b3 ⟨c,f,by rw [World.putObj_heap_other hI,hC.block b b2] at e;exact e⟩),World.putObj_heap_other hI]
      exact hC.block b b2
   | ret =>
    obtain ⟨k1,k3⟩:=hp;obtain ⟨hr,l2',l4,l5⟩:=fin (some .ret) k1;exact ⟨_,_,hr,.inr ⟨rfl,hK _ _ k3 (MvR.putObj _ (by omega) l2' rfl),l4,l5⟩⟩
   | _=>exact hp.elim
  ·rintro e W2 ⟨⟨v,rfl⟩,(⟨i1,i2,i3⟩|⟨i1,i2,i3⟩)⟩
   ·exact ⟨none,_,by have:=run_endLoop (P:=P) i2 (by rw [hA];simp);rw [hA] at this;exact this,hdone _ _ (qn _) (hE _ _ _ i1 (MvR.putObj _ (by omega) i2 rfl)) ((World.putObj_heap_other (by omega)).trans i3)⟩
   ·exact ⟨some .ret,_,by have:=run_endLoop (P:=P) i2 (by rw [hA];simp);rw [hA] at this;exact this,hstop _ _ (qn _) (hK _ _ i1 (MvR.putObj _ (by omega) i2 rfl)) ((World.putObj_heap_other (by omega)).trans i3)⟩
def DT(Ds:List Nat):List Deferred:=Ds.map λD=>{ target:=.collected D,args:=#[] }
def BQ(Ds:List Nat)(W:World):World:=Ds.foldl (λW D=>W.putObj D (.deferred none)) W
def Ep(Ds:List Nat)(W:World):Prop:=Ds.Nodup∧∀D∈Ds,W.heap[D]?=some (.deferred (some []))
theorem Fj{fn:Func}{tmps:Array Value}{R:Ending→World→Prop}:∀(Ds:List Nat) (W:World),Ep Ds W→(∃v,(results fn tmps).run P (BQ Ds W)=.ok v (BQ Ds W)∧R (.returned v) (BQ Ds W))→LeavesInM F n P fn tmps R (DT Ds) .returning W
 | [],_,_,h=>h
 | D::Ds,W,⟨h1,h2⟩,h=>by
  obtain ⟨h3,h4⟩:=List.nodup_cons.1 h1;refine ⟨by simp,.inl ⟨D,_,rfl,run_takeDeferred (h2 D (by simp)),?_⟩⟩;refine Fj Ds _ ⟨h4,λE hE=>?_⟩ h;exact (World.putObj_heap_other (λe=>h3 (by subst e;exact hE))).trans (h2 E (List.mem_cons_of_mem _ hE))
theorem Je:∀(Ds:List Nat) (W:World),(BQ Ds W).heap.size=W.heap.size
 | [],_=>rfl
 | D::Ds,W=>by
  show (BQ Ds (W.putObj D (.deferred none))).heap.size=_
  rw [Je Ds];simp [World.putObj]
theorem EX:∀(Ds:List Nat) (W:World) (b:Nat),b∉Ds→(BQ Ds W).heap[b]?=W.heap[b]?
 | [],_,_,_=>rfl
 | D::Ds,W,b,h=>by
  show (BQ Ds (W.putObj D (.deferred none))).heap[b]?=_
  rw [EX Ds _ b (λe=>h (List.mem_cons_of_mem _ e))];exact World.putObj_heap_other (λe=>h (by rw [e];simp))
theorem GI:∀(Ds:List Nat) (W:World),(BQ Ds W).os=W.os∧(BQ Ds W).tape=W.tape∧(BQ Ds W).output=W.output
 | [],_=>⟨rfl,rfl,rfl⟩
 | D::Ds,W=>GI Ds (W.putObj D (.deferred none))
theorem Io{B:Nat}{Ds:List Nat}{W:World}(h:∀D∈Ds,B≤D):Below B W (BQ Ds W) :=
 ⟨(GI Ds W).1,(GI Ds W).2.1,(GI Ds W).2.2,by rw [Je];exact qn _,λk hk=>EX Ds W k λe=>by have:=h k e;omega⟩
theorem DX{Ds:List Nat}{W:World}(h:Ep Ds W){b:Nat}{o:Obj}(hb:W.heap[b]?=some o)(hc:o.isCells=true):(BQ Ds W).heap[b]?=some o:=by
 rw [EX Ds W b,hb];intro e;have:=h.2 b e;rw [hb] at this;cases this;cases hc
end
end Go.Proofs.YtbkemlgfdklpfaaGreatDoor
