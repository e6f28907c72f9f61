/- Contracts and plain laws on the way to the statement: part 10. -/
import Derived.RangeFuncNested
import Derived.RangeFuncBound
import Derived.RangeFuncCalls
import Derived.RangeFuncLeaves
import Derived.Lib.Hide
import Derived.WalkKit
import Derived.Test.YtbkemlgfdklpfaaGreatDoorV4
set_option linter.unusedVariables false
set_option linter.unusedSimpArgs false
set_option maxRecDepth 100000
set_option maxHeartbeats 16000000
namespace Go.Proofs.YtbkemlgfdklpfaaGreatDoor
open Go.Value (int)
open Go.IntKind (i64)
section
open Go Go.RowKit
variable {P:Program}
theorem Fw{F:Fence}(hd:F.depth=none)(k:Nat):F.room k:=λd h=>by rw [hd] at h;cases h
theorem RoundIn.anyDepth{F:Fence}(hd:F.depth=none){m m':Nat}{l:Nat}{f:FuncId}{tmps:Array Value}{assign body:Code}{w:World}{R:Ending→World→Prop}
  (h:RoundIn F m P l f tmps assign body w R):RoundIn F m' P l f tmps assign body w R:=⟨h.1,λc cs _=>h.2 c cs (Fw hd _)⟩
theorem YieldAt.anyDepth{F:Fence}(hd:F.depth=none){m:Nat}(m':Nat){l:Nat}{args:Array Value}{W:World}{R:Ending→World→Prop}(h:YieldAt F m P l args W R):YieldAt F m' P l args W R:=by
 obtain ⟨fn,tmps,assign,body,hy,hR⟩:=h;exact ⟨fn,tmps,assign,body,hy,RoundIn.anyDepth hd hR⟩
theorem YieldAt.to{F:Fence}{m l:Nat}{args:Array Value}{W:World}{R R':Ending→World→Prop}(h:YieldAt F m P l args W R)(hr:∀e w,R e w→R' e w):YieldAt F m P l args W R':=by
 obtain ⟨fn,tmps,assign,body,hy,hR⟩:=h;exact ⟨fn,tmps,assign,body,hy,hR.mono hr⟩
def Ob(P:Program)(l:Nat)(R:Ending→World→Prop):Exit→Act→World→Prop
 | .normal,_,w=>∃v w',(Instr.endRound l none).run P w=.ok v w'∧R (.returned v) w'
 | .ret,_,w=>∃v w',(Instr.endRound l (some .ret)).run P w=.ok v w'∧R (.returned v) w'
 | .panic c,a,w=>a.defers=[]∧R (.panicked c) w
 | _,_,_=>False
theorem ID{n l:Nat}{f:FuncId}{tmps:Array Value}{assign body:Code}{w:World}{R:Ending→World→Prop}(hC:∃fn,P.funcs[f]?=some fn)
  (h:assign.wpIn (Fence.wide.inRound l) n P (Exit.then (λa₁ w₁=>∃w₂,(Instr.beginRound l).run P w₁=.ok () w₂∧body.wpIn (Fence.wide.inRound l) n P (Ob P l R) a₁ w₂) (λ_ _ _=>False)) { tmps:=tmps,defers:=[] } w) :
  RoundIn Fence.wide n P l f tmps assign body w R:=by
 refine ⟨trivial,λc cs _=>?_⟩
 let b:Frame:={ (default:Frame) with fn:=f,kind:=.normal,roundOf:=some l }
 have hD:Frame.round l f tmps assign body .normal=b.atR { tmps:=tmps,defers:=[] } [.code assign,.beginRound,.code body]:=by
  simp [Frame.round,Frame.atR,b]
 obtain ⟨e,a₁,w₁,hq,hA⟩:=h b [.beginRound,.code body] (c::cs) rfl trivial (room_wide _);rw [← hD] at hA
 cases e with
 | normal =>
  obtain ⟨w₂,hE,hbody⟩:=hq;have s1:StepsIn (Machine.fenced P Fence.wide) P (lone (b.atR a₁ [.beginRound,.code body]) (c::cs) w₁) (lone (b.atR a₁ [.code body]) (c::cs) w₂) :=
   .one (fenced_wide P _) (stepR_beginRound rfl hE)
  obtain ⟨e₂,a₂,w₃,hq₂,hA₂⟩:=hbody b [] (c::cs) rfl trivial (room_wide _)
  cases e₂ with
  | normal =>
   obtain ⟨v,w₄,hB,hR⟩:=hq₂;exact ⟨.returned v,w₄,hR,(StepsIn.trans hA s1).trans (StepsIn.trans hA₂ (.one (fenced_wide P _) (stepR_round_end rfl rfl hB)))⟩
  | ret =>
   obtain ⟨v,w₄,hB,hR⟩:=hq₂;obtain ⟨k₁,hs⟩:=hA₂.2 rfl;exact ⟨.returned v,w₄,hR,(StepsIn.trans hA s1).trans (StepsIn.trans hs (.one (fenced_wide P _) (stepR_round_ret rfl rfl hB)))⟩
  | panic ch =>
   obtain ⟨hd,hR⟩:=hq₂;obtain ⟨todo,hs⟩:=hA₂;obtain ⟨fn,hf⟩:=hC;exact ⟨.panicked ch,w₃,hR,(StepsIn.trans hA s1).trans (StepsIn.trans hs (.one (fenced_wide P _) (step_leave_panicked ⟨rfl,hd,fn,hf⟩)))⟩
  | exit id=>exact hq₂.elim
  | goto t=>exact hq₂.elim
  | outgrown=>exact hq₂.elim
 | exit id=>exact hq.elim
 | goto t=>exact hq.elim
 | ret=>exact hq.elim
 | panic ch=>exact hq.elim
 | outgrown=>exact hq.elim
def Dz(f0:FuncId)(P:Program)(c:Code)(Q:Exit→Act→World→Prop)(a:Act)(w:World):Prop :=
 ∀(b:Frame) (k:List Item) (cs:List Frame),b.roundOf=none→b.fn=f0→∃e a' w',Q e a' w'∧ArrivesIn (Machine.fenced P Fence.wide) P (lone (b.atR a (.code c::k)) cs w) b k cs e a' w'
section
variable {f0:FuncId} {Q:Exit→Act→World→Prop} {a:Act} {w:World}
theorem So{n:Nat}{c:Code}(h:c.wpIn Fence.wide n P Q a w):Dz f0 P c Q a w:=λb k cs hr _=>h b k cs hr trivial (room_wide _)
theorem EZ{c:Code}(h:c.wp P Q a w):Dz f0 P c Q a w:=So (n:=0) (wpIn_wide.2 h)
theorem FB{x y:Code}(h:Dz f0 P x (Exit.then (Dz f0 P y Q) Q) a w):Dz f0 P (Code.seq x y) Q a w:=by
 intro b k cs hB hb;have h0:(lone (b.atR a (.code (.seq x y)::k)) cs w).fenced P Fence.wide:=fenced_wide P _;obtain ⟨e,a₁,w₁,hq,hA⟩:=h b (.code y::k) cs hB hb
 cases e with
 | normal =>
  obtain ⟨e₂,a₂,w₂,hq₂,hA₂⟩:=hq b k cs hB hb;exact ⟨e₂,a₂,w₂,hq₂,.of_steps (.head h0 stepR_seq hA) hA₂⟩
 | exit id=>exact ⟨_,a₁,w₁,hq,.of_steps (.one h0 stepR_seq) (.pass (x:=.code y) rfl (λ_ _=>.inl (by simp)) hA)⟩
 | goto l=>exact ⟨_,a₁,w₁,hq,.of_steps (.one h0 stepR_seq) (.pass (x:=.code y) rfl (λ_ _=>.inl (by simp)) hA)⟩
 | ret=>exact ⟨_,a₁,w₁,hq,.of_steps (.one h0 stepR_seq) (.pass (x:=.code y) rfl (λ_ _=>.inl (by simp)) hA)⟩
 | panic ch=>exact ⟨_,a₁,w₁,hq,.of_steps (.one h0 stepR_seq) (.pass (x:=.code y) rfl (λ_ _=>.inl (by simp)) hA)⟩
 | outgrown=>exact ⟨_,a₁,w₁,hq,.of_steps (.one h0 stepR_seq) (.pass (x:=.code y) rfl (λ_ _=>.inl (by simp)) hA)⟩
theorem AH{x y:Code}(h:∀K:Act→World→Prop,(∀a w,Dz f0 P y Q a w→K a w)→x.wp P (Exit.then K Q) a w):Dz f0 P (Code.seq x y) Q a w :=
 FB (EZ (h _ λ_ _ h=>h))
theorem EY{id:Nat}{c:Code}(h:Dz f0 P c (Exit.inBlock id Q) a w):Dz f0 P (Code.block id c) Q a w:=by
 intro b k cs hC hb;have h0:(lone (b.atR a (.code (.block id c)::k)) cs w).fenced P Fence.wide:=fenced_wide P _;obtain ⟨e,a₁,w₁,hq,hA⟩:=h b (.inBlock id::k) cs hC hb
 cases e with
 | normal=>exact ⟨.normal,a₁,w₁,hq,.head h0 stepR_block (StepsIn.trans hA (.one (fenced_wide P _) stepR_inBlock))⟩
 | exit id' =>
  by_cases hid:id'=id
  ·simp only [Exit.inBlock,hid,if_true] at hq
   exact ⟨.normal,a₁,w₁,hq,.head h0 stepR_block (hA.1 k (by simp [exitTo,hid]))⟩
  ·simp only [Exit.inBlock,hid,if_false] at hq
   have this:(id==id')=false:=by simp;exact λh=>hid h.symm
   have hx:exitTo id' (.inBlock id::k)=exitTo id' k:=by simp [exitTo,this]
   exact ⟨.exit id',a₁,w₁,hq,λk' hk=>.head h0 stepR_block (hA.1 k' (by rw [hx];exact hk)),
    λhB hk=>let ⟨k₁,h1,h2⟩:=hA.2 hB (by rw [hx];exact hk);⟨k₁,h1,.head h0 stepR_block h2⟩⟩
 | goto l =>
  have hx:gotoIn l (.inBlock id::k)=gotoIn l k:=by simp [gotoIn]
  exact ⟨_,a₁,w₁,hq,λk' hk=>.head h0 stepR_block (hA.1 k' (by rw [hx];exact hk)),
   λhB hk=>let ⟨k₁,h1,h2⟩:=hA.2 hB (by rw [hx];exact hk);⟨k₁,h1,.head h0 stepR_block h2⟩⟩
 | ret=>exact ⟨_,a₁,w₁,hq,.of_steps (.one h0 stepR_block) hA⟩
 | panic ch=>exact ⟨_,a₁,w₁,hq,.of_steps (.one h0 stepR_block) hA⟩
 | outgrown=>exact ⟨_,a₁,w₁,hq,.of_steps (.one h0 stepR_block) hA⟩
theorem Iv{g:Operand}{ps:Array Go.Tmp}{assign body:Code}{d:Deferred}{f:FuncId}{args:Array Value}{W1:World}
  (hJ:(w.alloc (.deferred (some []))).alloc (.loop { state:=.ready,pending:=none,fn:=f0,tmps:=a.tmps,params:=ps,assign,body,defers:=w.heap.size })=W1)
  (hE:(resolve a.eval (rangeCall g (w.heap.size+1)) 0).run P W1=.ok d W1) (hF:(invoke d.target d.args).run P W1=.ok (.enter f args) W1)
  (hD:CallsIn Fence.wide 0 P f args W1 (rangePost Fence.wide 0 P (w.heap.size+1) Q { a with defers:={ target:=.collected w.heap.size,args:=#[] }::a.defers })) :
  Dz f0 P (Code.rangeFunc g ps assign body) Q a w:=by
 intro b k cs hI hb
 have he:(Instr.enterLoop b.fn a.tmps ps assign body b.roundOf).run P w=.ok (w.heap.size+1,[{ target:=.collected w.heap.size,args:=#[] }]) W1:=by
  rw [hI,hb,← hJ];exact run_enterLoop_outer _ _ _ _ _
 have h0:(lone (b.atR a (.code (.rangeFunc g ps assign body)::k)) cs w).fenced P Fence.wide:=fenced_wide P _;have hA:=stepR_rangeFunc (P:=P) (b:=b) (a:=a) (k:=k) (cs:=cs) (w:=w) he hE hF;obtain ⟨e,w₃,fr,hR,hB,hK,hC⟩:=hD.2 (b.atR { a with defers:=[{ target:=.collected w.heap.size,args:=#[] }]++a.defers } (.inRangeFunc (w.heap.size+1)::k)::cs) (room_wide _)
 cases e with
 | outgrown =>
  obtain ⟨a₀,w₀,hq⟩:=hR;exact ⟨.outgrown,a₀,w₀,hq,.inr (Outgrown.of_steps (.one hA) hB)⟩
 | returned v =>
  obtain ⟨jump,w₄,hG,hj⟩:=hR
  have sback:StepsIn (Machine.fenced P Fence.wide) P (lone (b.atR a (.code (.rangeFunc g ps assign body)::k)) cs w) (lone (b.atR { a with defers:=[{ target:=.collected w.heap.size,args:=#[] }]++a.defers } ((jump.map Item.code).toList++k)) cs w₄):=by
   refine .head h0 hA (StepsIn.trans hB (.head (fenced_wide P _) ?_ (.one (fenced_wide P _) (stepR_endRangeFunc hG))));rw [← finish_atR_inRangeFunc (w.heap.size+1) v];exact step_leave_returned hC
  cases jump with
  | none=>exact ⟨.normal,_,w₄,hj,sback⟩
  | some c =>
   obtain ⟨e',a'',w₅,hq,hH⟩:=hj b k cs hI trivial (room_wide _);exact ⟨e',a'',w₅,hq,.of_steps sback hH⟩
 | panicked chain =>
  refine ⟨.panic chain,_,w₃,hR,.inRangeFunc (w.heap.size+1)::k,.head h0 hA (StepsIn.trans hB (.one (fenced_wide P _) ?_))⟩;rw [← Frame.raise_atR];exact step_leave_panicked hC
end
theorem EE{f:FuncId}{fn:Func}{c:Code}{args:Array Value}{w:World}{R:Ending→World→Prop}(hf:P.funcs[f]?=some fn)(hb:fn.body=some c)
  (h:Dz f P c (bodyPostM Fence.wide 0 P fn R) { tmps:=args++Array.replicate (fn.ntmps-args.size) undef,defers:=[] } w):Calls P f args w R:=by
 refine (callsIn_wide (n:=0)).1 ⟨trivial,λcs hr=>?_⟩
 let b:Frame:={ (default:Frame) with fn:=f,kind:=.normal,roundOf:=none }
 have hB:Frame.enter P f args .normal =
   b.atR { tmps:=args++Array.replicate (fn.ntmps-args.size) undef,defers:=[] } [.code c]:=by
  simp [Frame.enter,Frame.atR,hf,hb,b]
 obtain ⟨e,a',w',hq,hA⟩:=h b [] cs rfl rfl;rw [← hB] at hA
 cases e with
 | normal =>
  obtain ⟨e',w'',fr',hR,hs,hC,hl⟩:=leaves_stepsInM a'.defers .returning w' { b.atR a' [] with mode:=.returning } cs rfl rfl rfl hf rfl trivial hr hq;exact ⟨e',w'',fr',hR,ComesIn.of_steps (StepsIn.trans hA (.one (fenced_wide P _) (stepR_end rfl))) hs,hC,hl⟩
 | ret =>
  obtain ⟨todo,hs₀⟩:=hA.1 rfl;obtain ⟨e',w'',fr',hR,hs,hC,hl⟩:=leaves_stepsInM a'.defers .returning w' { b.atR a' todo with mode:=.returning } cs rfl rfl rfl hf rfl trivial hr hq;exact ⟨e',w'',fr',hR,ComesIn.of_steps hs₀ hs,hC,hl⟩
 | panic chain =>
  obtain ⟨todo,hs₀⟩:=hA;obtain ⟨e',w'',fr',hR,hs,hC,hl⟩:=leaves_stepsInM a'.defers (.panicking chain) w' { b.atR a' todo with mode:=.panicking chain } cs rfl rfl rfl hf rfl trivial hr hq;exact ⟨e',w'',fr',hR,ComesIn.of_steps hs₀ hs,hC,hl⟩
 | exit id=>exact hq.elim
 | goto l=>exact hq.elim
 | outgrown=>exact ⟨.outgrown,w',b,hq,hA.resolve_left (by simp [b]),rfl,trivial⟩
end
section
open Go Go.RowKit
variable {P:Program}
def Lp{β:Type}(J:β→World→Prop):Prop:=∀s W W',J s W→Below W.heap.size W W'→J s W'
def RowInt(W:World)(b:Nat):Prop:=∃cur fr,W.heap[b]?=some (.cells cur 3 fr)
def Beyond(B:Nat)(W W':World):Prop:=W.heap.size≤W'.heap.size∧∀b,B≤b→b<W.heap.size→¬RowInt W b→W'.heap[b]?=W.heap[b]?
theorem Beyond.refl(B:Nat)(W:World):Beyond B W W:=⟨qn _,λ_ _ _ _=>rfl⟩
theorem Beyond.trans{B:Nat}{X Y Z:World}(h:Beyond B X Y)(k:Beyond B Y Z):Beyond B X Z:=⟨Nat.le_trans h.1 k.1,λb h1 h2 h3=>(k.2 b h1 (Nat.lt_of_lt_of_le h2 h.1) (λ⟨c,f,e⟩=>h3 ⟨c,f,(h.2 b h1 h2 h3).symm.trans e⟩)).trans (h.2 b h1 h2 h3)⟩
theorem Beyond.of_below{B:Nat}{X Y:World}(h:Below X.heap.size X Y):Beyond B X Y:=⟨h.size,λb _ h2 _=>h.block b h2⟩
theorem RowInt.other{W:World}{b:Nat}{o:Obj}(h:W.heap[b]?=some o)(ho:∀cur fr,o≠.cells cur 3 fr):¬RowInt W b:=λ⟨c,f,e⟩=>by
 rw [h] at e;exact ho c f (by injection e)
theorem RowInt.put{W:World}{l b:Nat}{o:Obj}(h:RowInt (W.putObj l o) b)(hb:b≠l):RowInt W b:=by
 obtain ⟨c,f,e⟩:=h;exact ⟨c,f,(World.putObj_heap_other (by omega)).symm.trans e⟩
def BW{α:Type}(B:Nat)(I:List α→World→Prop)(Ix Ip:World→Prop)(ch:List PanicEntry)(xs:List α)(W:World):Exit→Act→World→Prop
 | .normal,_,W'=>Beyond B W W'∧I xs W'
 | .ret,_,W'=>Beyond B W W'∧Ix W'
 | .panic c,a,W'=>a.defers=[]∧c=ch∧Beyond B W W'∧Ip W'
 | _,_,_=>False
def Ua{α:Type}(B:Nat)(J:List α→World→Prop)(Jx Jp:World→Prop)(ch:List PanicEntry)(pre:List α)(x:α)(W1:World)(e:Ending)(W':World):Prop :=
 (e=.returned (.bool true)∧J (pre++[x]) W'∧Beyond B W1 W')∨(e=.returned (.bool false)∧Jx W')∨(e=.panicked ch∧Jp W')
def OC{α:Type}(P:Program)(gf:Nat)(lb:Array Value)(encs:α→Array Value)(L:List α)(ok:Prop)(ch:List PanicEntry)(Rd:World→Prop)(w:World):Prop :=
 ∀(l R:Nat) (J:List α→World→Prop) (Jx Jp:World→Prop) (W:World),Below w.heap.size w W→w.heap.size≤R→R<W.heap.size→Lp J→(∀pre W1,J pre W1→Rd W1) →
  (∀pre x rest W1,L=pre++x::rest→J pre W1→∀m,YieldAt Fence.wide m P l (encs x) W1 (Ua W.heap.size J Jx Jp ch pre x W1)) →
  (∀pre rest W1,L=pre++rest→¬ok→J pre W1→Jp W1)→J [] W →
  Calls P gf (#[.func (.yield l) #[] #[]]++lb) W λe W'=>(∃v,e=.returned v∧((ok∧J L W')∨Jx W'))∨(e=.panicked ch∧Jp W')
theorem Dm{α:Type}{f0:FuncId}{fn0:Func}(hQ:P.funcs[f0]?=some fn0){g:Operand}{ps:Array Go.Tmp}{assign body:Code}{Q:Exit→Act→World→Prop}{a:Act}{w:World}{gf:Nat}{lb:Array Value}
  (hg:a.eval g=.func (.func gf) #[] lb) (eg:∀args w,(callFunc gf args).run P w=.ok (.enter gf args) w)
  {encs:α→Array Value} {L:List α} {ok:Prop} {ch:List PanicEntry} {Rd:World→Prop} (hF:OC P gf lb encs L ok ch Rd w) (hR:∀x,(encs x).size=ps.size)
  (I:List α→World→Prop) (Ix Ip:World→Prop) (hI:OwnFrom w.heap.size I) (hN:OwnFrom w.heap.size λ(_:Unit)=>Ix) (hS:Lp I) (h0:I [] w) (hT:∀pre W,I pre W→Rd W) (a₁:α→Act)
  (hassign:∀(l:Nat) (x:α) (W:World) (K:Act→World→Prop),K (a₁ x) W→assign.wpIn (Fence.wide.inRound l) 0 P (Exit.then K (λ_ _ _=>False)) { tmps:=(ps.zip (encs x)).foldl (λt (p,v)=>t.setIfInBounds p v) a.tmps,defers:=[] } W)
  (hbody:∀(l:Nat) (pre:List α) (x:α) (rest:List α) (W:World),L=pre++x::rest→I pre W→body.wpIn (Fence.wide.inRound l) 0 P (BW w.heap.size I Ix Ip ch (pre++[x]) W) (a₁ x) W)
  (hG:∀pre rest W,L=pre++rest→¬ok→I pre W→Ip W)
  (hdone:∀(D:Nat) (W:World),w.heap.size≤D→ok→I L W→W.heap[D]?=some (.deferred (some []))→Q .normal { a with defers:={ target:=.collected D,args:=#[] }::a.defers } W)
  (hstop:∀(D:Nat) (W:World),w.heap.size≤D→Ix W→W.heap[D]?=some (.deferred (some []))→Code.ret.wpIn Fence.wide 0 P Q { a with defers:={ target:=.collected D,args:=#[] }::a.defers } W)
  (hH:∀(D:Nat) (W:World),w.heap.size≤D→Ip W→W.heap[D]?=some (.deferred (some []))→Q (.panic ch) { a with defers:={ target:=.collected D,args:=#[] }::a.defers } W) :
  Dz f0 P (Code.rangeFunc g ps assign body) Q a w:=by
 obtain ⟨rec,hA⟩:∃rec:LoopState→Option Code→Loop,rec=λst pe=>{ state:=st,pending:=pe,fn:=f0,tmps:=a.tmps,params:=ps,assign,body,defers:=w.heap.size }:=⟨_,rfl⟩
 have er:∀st pe,({ state:=st,pending:=pe,fn:=f0,tmps:=a.tmps,params:=ps,assign:=assign,body:=body,defers:=w.heap.size }:Loop)=rec st pe:=λst pe=>by rw [hA]
 generalize hB:(w.alloc (.deferred (some []))).alloc (.loop (rec .ready none))=W1
 have hL:W1.heap[w.heap.size+1]?=some (.loop (rec .ready none)):=by
  rw [← hB];have:=World.alloc_heap_new (w.alloc (.deferred (some []))) (.loop (rec .ready none));rwa [World.size_alloc] at this
 have hD:W1.heap[w.heap.size]?=some (.deferred (some [])):=by
  rw [← hB];exact (Below.heap_alloc _ _ _ (by simp)).trans (World.alloc_heap_new w _)
 have hI1:I [] W1:=by rw [← hB];exact hI.alloc _ (hI.alloc _ h0)
 have hU:Below w.heap.size w W1:=by rw [← hB];exact ((Below.refl _ w).alloc (qn _) _).alloc (by simp) _
 have hV:w.heap.size+1<W1.heap.size:=(qs.1 hL).1;refine Iv (d:={ target:=.fn (.func gf) lb,args:=#[.func (.yield (w.heap.size+1)) #[] #[]] }) (f:=gf) (args:=#[.func (.yield (w.heap.size+1)) #[] #[]]++lb) (W1:=W1) ?_ ?_ ?_ ?_
 ·rw [er,hB]
 ·simp only [resolve,hg]
  simp [go_sem]
 ·simp [invoke,go_sem,eg]
 ·refine (callsIn_wide (n:=0)).2 ((hF (w.heap.size+1) (w.heap.size+1) (λpre W=>I pre W∧W.heap[w.heap.size+1]?=some (.loop (rec .ready none))∧W.heap[w.heap.size]?=some (.deferred (some [])))
   (λW=>Ix W∧W.heap[w.heap.size+1]?=some (.loop (rec .done (some .ret)))∧W.heap[w.heap.size]?=some (.deferred (some []))) (λW=>Ip W∧W.heap[w.heap.size]?=some (.deferred (some []))) W1 hU (by omega) hV ?_ ?_ ?_ ?_ ⟨hI1,hL,hD⟩).mono ?_)
  ·rintro s W W' ⟨i1,i2,i3⟩ hb
   exact ⟨hS s W W' i1 hb,(hb.block _ (qs.1 i2).1).trans i2,(hb.block _ (qs.1 i3).1).trans i3⟩
  ·exact λpre W h=>hT pre W h.1
  ·rintro pre x rest W hK ⟨i1,i2,i3⟩ m
   refine YieldAt.anyDepth (m:=0) rfl m ?_;have hy:=run_yield (P:=P) (args:=encs x) i2 (by rw [hA];exact hR x);rw [hA] at hy;refine ⟨f0,_,assign,body,hy,ID ⟨fn0,hQ⟩ (hassign _ x W _ ?_)⟩;refine ⟨_,run_beginRound i2 (by rw [hA]),?_⟩;have hb:({ rec .ready none with state:=.busy }:Loop)=rec .busy none:=by rw [hA]
   rw [hb];have hO:w.heap.size+1<W.heap.size:=(qs.1 i2).1;have j2:(W.putObj (w.heap.size+1) (.loop (rec .busy none))).heap[w.heap.size+1]?=some (.loop (rec .busy none)):=World.putObj_heap_same hO;have j3:(W.putObj (w.heap.size+1) (.loop (rec .busy none))).heap[w.heap.size]?=some (.deferred (some [])):=(World.putObj_heap_other (by omega)).trans i3;have hC:(W.putObj (w.heap.size+1) (.loop (rec .busy none))).heap.size=W.heap.size:=by simp [World.putObj]
   refine wpIn_mono (hbody _ pre x rest _ hK (hI.putObj _ i1 (by omega) i2 rfl)) ?_;intro e a3 W3 hp;have fin:∀(jump:Option Code),Beyond w.heap.size (W.putObj (w.heap.size+1) (.loop (rec .busy none))) W3 →
     (Instr.endRound (w.heap.size+1) jump).run P W3=.ok (.bool jump.isNone) (W3.putObj (w.heap.size+1) (.loop (rec (if jump.isNone then .ready else .done) jump))) ∧
     W3.heap[w.heap.size+1]?=some (.loop (rec .busy none)) ∧
     (W3.putObj (w.heap.size+1) (.loop (rec (if jump.isNone then .ready else .done) jump))).heap[w.heap.size+1]?=some (.loop (rec (if jump.isNone then .ready else .done) jump)) ∧
     (W3.putObj (w.heap.size+1) (.loop (rec (if jump.isNone then .ready else .done) jump))).heap[w.heap.size]?=some (.deferred (some [])):=λjump hP=>by
    have hE:=(hP.2 (w.heap.size+1) (by omega) (by rw [hC];exact hO) (RowInt.other j2 (by simp))).trans j2;have hW:=(hP.2 w.heap.size (by omega) (by rw [hC];omega) (RowInt.other j3 (by simp))).trans j3;have:=run_endRound (P:=P) jump hE;rw [hA] at this ⊢;exact ⟨this,by rw [hA] at hE;exact hE,World.putObj_heap_same (qs.1 hE).1,(World.putObj_heap_other (by omega)).trans hW⟩
   cases e with
   | normal =>
    obtain ⟨k1,k3⟩:=hp;obtain ⟨hr,l2,l4,l5⟩:=fin none k1;have hX:W.heap.size≤W.heap.size:=qn _;refine ⟨_,_,hr,.inl ⟨rfl,⟨hI.putObj _ k3 (by omega) l2 rfl,l4,l5⟩,⟨?_,λb h1 h2 h3=>?_⟩⟩⟩
    ·have:=k1.1;rw [hC] at this;simpa [World.putObj] using this
    ·rw [World.putObj_heap_other (by omega),k1.2 b (by omega) (by rw [hC];exact h2) (λh=>h3 (h.put (by omega))),World.putObj_heap_other (by omega)]
   | ret =>
    obtain ⟨k1,k3⟩:=hp;obtain ⟨hr,l2,l4,l5⟩:=fin (some .ret) k1;exact ⟨_,_,hr,.inr (.inl ⟨rfl,hN.putObj (s:=()) _ k3 (by omega) l2 rfl,l4,l5⟩)⟩
   | panic c =>
    obtain ⟨k0,rfl,k1,k3⟩:=hp;exact ⟨k0,.inr (.inr ⟨rfl,k3,(k1.2 w.heap.size (by omega) (by rw [hC];omega) (RowInt.other j3 (by simp))).trans j3⟩)⟩
   | _=>exact hp.elim
  ·exact λpre rest W hK hM hJ=>⟨hG pre rest W hK hM hJ.1,hJ.2.2⟩
  ·rintro e W2 (⟨v,rfl,(⟨hM,i1,i2,i3⟩|⟨i1,i2,i3⟩)⟩|⟨rfl,i1,i3⟩)
   ·exact ⟨none,_,by have:=run_endLoop (P:=P) i2 (by rw [hA];simp);rw [hA] at this;exact this,hdone _ _ (qn _) hM (hI.putObj _ i1 (by omega) i2 rfl) ((World.putObj_heap_other (by omega)).trans i3)⟩
   ·exact ⟨some .ret,_,by have:=run_endLoop (P:=P) i2 (by rw [hA];simp);rw [hA] at this;exact this,hstop _ _ (qn _) (hN.putObj (s:=()) _ i1 (by omega) i2 rfl) ((World.putObj_heap_other (by omega)).trans i3)⟩
   ·exact hH _ _ (qn _) i1 i3
end
end Go.Proofs.YtbkemlgfdklpfaaGreatDoor
