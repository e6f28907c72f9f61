/- Contracts and plain laws on the way to the statement: part 24. -/
import Derived.Test.YtbkemlgfdklpfaaGreatDoorV23
import Derived.Defers
import Derived.Recover
import Derived.RecoverIn
import Derived.Test.YtbkemlgfdklpfaaGreatDoorV4
set_option linter.unusedVariables false
set_option linter.unusedSimpArgs false
set_option maxRecDepth 100000
set_option maxHeartbeats 16000000
namespace Go.Proofs.YtbkemlgfdklpfaaGreatDoor
open Go.Value (int)
open Go.IntKind (i64)
section
open Go Go.RowKit
def CJ:Array Value:=#[sv [],int i64 0,int i64 0,int i64 0,int i64 0,int i64 0,.slice none 0 0,.slice none 0 0,.slice none 0 0,.slice none 0 0,.slice none 0 0,.slice none 0 0]
theorem Lx(X E:Addr)(w:World) :
  CallsDIn Fence.wide 0 Tryz.prog 118 #[.pointer (some X),.pointer (some E)] .returning w λe u' w'=>e=.returned (.tuple #[])∧u'=.returning∧w=w':=by
 refine callsDIn_of_wpSIn Tryz.func118 rfl trivial λc₀ cs hu=>?_
 apply wpSIn_seq;apply wpSIn_region;simp [wpOpsSIn,go_sem,recoverD,hu,Tryz.ntmps118,Exit.thenS];refine wpSIn_of_wpIn rfl (wpIn_wide.2 ?_);simp only [Array.replicate];go_wp2;cases c₀
 simp_all [bodyPostS,results,Tryz.results118]
theorem Jb(c:Int)(w:World):(Instr.typeAssert (.iface 40 (int i64 c)) 20 40 true).run Tryz.prog w=.ok (.tuple #[int i64 c,.bool true]) w:=by kernel_rfl
theorem Im(c:Int)(w:World):(binOp .eql 20 (.iface 40 (int i64 c)) .nilIface).run Tryz.prog w=.ok (.bool false) w:=by kernel_rfl
theorem FO{w:World}{X:Nat}{xs:Array Value}(h:w.heap[X]?=some (.cells xs 30 (0,0)))(hs:xs.size=12)(c0 c1 c2 c3 c4 c5 c6 c7 c8 c9 c10 c11:Value):∃w',
  (((((((((((w.setCell ⟨X,0,none⟩ c0).setCell ⟨X,1,none⟩ c1).setCell ⟨X,2,none⟩ c2).setCell ⟨X,3,none⟩ c3).setCell ⟨X,4,none⟩ c4).setCell ⟨X,5,none⟩ c5).setCell ⟨X,6,none⟩ c6).setCell ⟨X,7,none⟩ c7).setCell ⟨X,8,none⟩ c8).setCell ⟨X,9,none⟩ c9).setCell ⟨X,10,none⟩ c10).setCell ⟨X,11,none⟩ c11=w' ∧
   w'.heap[X]?=some (.cells #[c0,c1,c2,c3,c4,c5,c6,c7,c8,c9,c10,c11] 30 (0,0))∧(∀b,b≠X→w'.heap[b]?=w.heap[b]?)∧(∀B w0,Below B w0 w→B≤X→Below B w0 w')∧w'.heap.size=w.heap.size:=by
 refine ⟨_,rfl,?_,λb hb=>?_,λB w0 hb hX=>?_,?_⟩
 ·obtain ⟨l⟩:=xs
  match l,hs with
  | [_,_,_,_,_,_,_,_,_,_,_,_],_=>simp [World.setCell,Array.getElem?_modify,h]
 ·iterate 12 rw [Below.heap_setCell _ _ _ _ hb]
 ·iterate 12 refine Below.setCell ?_ (by exact hX) _
  exact hb
 ·simp [World.setCell]
theorem Gn(X E:Nat)(c:Int)(x:Value)(xs:Array Value)(older:List PanicEntry)(w:World)(h0:w.heap[E]?=some (.cells #[x] 40 (0,0)))(hX:w.heap[X]?=some (.cells xs 30 (0,0)))(hs:xs.size=12)(hB:X≠E) :
  CallsDIn Fence.wide 0 Tryz.prog 118 #[.pointer (some ⟨X,0,none⟩),.pointer (some ⟨E,0,none⟩)] (.panicking ({ v:=.iface 40 (int i64 c),recovered:=false }::older)) w λe u' w' =>
   e=.returned (.tuple #[])∧u'=.panicking ({ v:=.iface 40 (int i64 c),recovered:=true }::older)∧w'.heap[E]?=some (.cells #[int i64 c] 40 (0,0))∧w'.heap[X]?=some (.cells CJ 30 (0,0))∧(∀b,b≠X→b≠E→w'.heap[b]?=w.heap[b]?)∧(∀B,B≤X→B≤E→Below B w w'):=by
 obtain ⟨W1,e1,g1,o1,b1,s1⟩:=FO hX hs (sv []) (int i64 0) (int i64 0) (int i64 0) (int i64 0) (int i64 0) (.slice none 0 0) (.slice none 0 0) (.slice none 0 0) (.slice none 0 0) (.slice none 0 0) (.slice none 0 0);have gE:=(o1 E (λe=>hB e.symm)).trans h0;obtain ⟨W2,e2,g2,o2,b2,s2⟩:=Bp gE (int i64 c);have hA:W2.heap[E]?=some (.cells #[int i64 c] 40 (0,0))∧W2.heap[X]?=some (.cells CJ 30 (0,0))∧(∀b,b≠X→b≠E→W2.heap[b]?=w.heap[b]?)∧(∀B,B≤X→B≤E→Below B w W2) :=
  ⟨g2,(o2 X hB).trans g1,λb h1 h2=>(o2 b h2).trans (o1 b h1),λB h1 h2=>b2 _ _ (b1 _ _ (Below.refl _ _) h1) h2⟩
 have HA:=qh hA;have cE:W1.cell? ⟨E,0,none⟩=some x:=Aa gE 0 rfl;have fE:W1.frozen? ⟨E,0,none⟩=false:=by simp [World.frozen?,gE]
 have fX:∀j,w.frozen? ⟨X,j,none⟩=false:=λj=>by simp [World.frozen?,hX]
 obtain ⟨x0,x1,x2,x3,x4,x5,x6,x7,x8,x9,x10,x11,rfl⟩:∃x0 x1 x2 x3 x4 x5 x6 x7 x8 x9 x10 x11,xs=#[x0,x1,x2,x3,x4,x5,x6,x7,x8,x9,x10,x11]:=by
  obtain ⟨l⟩:=xs
  match l,hs with
  | [a,b,c,d,e,f,g,h,i,j,k,l],_=>exact ⟨a,b,c,d,e,f,g,h,i,j,k,l,rfl⟩
 have y0:=Aa hX 0 rfl;have y1:=Aa hX 1 rfl;have y2:=Aa hX 2 rfl;have y3:=Aa hX 3 rfl;have y4:=Aa hX 4 rfl;have y5:=Aa hX 5 rfl;have y6:=Aa hX 6 rfl;have y7:=Aa hX 7 rfl;have y8:=Aa hX 8 rfl;have y9:=Aa hX 9 rfl;have y10:=Aa hX 10 rfl;have y11:=Aa hX 11 rfl;clear hA gE h0 hX g1 o1 b1 s1 g2 o2 b2 s2;refine callsDIn_of_wpSIn Tryz.func118 rfl trivial λc₀ cs hu=>?_
 apply wpSIn_seq;apply wpSIn_region;simp [wpOpsSIn,go_sem,recoverD,hu,Tryz.ntmps118,Exit.thenS];refine wpSIn_of_wpIn rfl (wpIn_wide.2 ?_);have hC:=Jb;have hD:=Im;simp only [Array.replicate];go_wp2;exact ⟨rfl,_,rfl,.tuple #[],results_none rfl _ _ _,rfl,rfl,HA.out⟩
def dfr(X E:Nat):Deferred:={ target:=.fn (.func 118) #[.pointer (some ⟨X,0,none⟩),.pointer (some ⟨E,0,none⟩)],args:=#[] }
theorem Gf(t:Array Value)(X E:Nat)(v:Value)(xs:Array Value)(W:World)(hA:t.getD 2 undef=.pointer (some ⟨X,0,none⟩))(hB:t.getD 3 undef=.pointer (some ⟨E,0,none⟩))(hX:W.heap[X]?=some (.cells xs 30 (0,0)))(hs:xs.size=12)(hE:W.heap[E]?=some (.cells #[v] 40 (0,0))) :
  (results Tryz.f89 t).run Tryz.prog W=.ok (.tuple #[.agg xs,v]) W:=by
 obtain ⟨x0,x1,x2,x3,x4,x5,x6,x7,x8,x9,x10,x11,rfl⟩:∃x0 x1 x2 x3 x4 x5 x6 x7 x8 x9 x10 x11,xs=#[x0,x1,x2,x3,x4,x5,x6,x7,x8,x9,x10,x11]:=by
  obtain ⟨l⟩:=xs
  match l,hs with
  | [a,b,c,d,e,f,g,h,i,j,k,l],_=>exact ⟨a,b,c,d,e,f,g,h,i,j,k,l,rfl⟩
 have y0:=Aa hX 0 rfl;have y1:=Aa hX 1 rfl;have y2:=Aa hX 2 rfl;have y3:=Aa hX 3 rfl;have y4:=Aa hX 4 rfl;have y5:=Aa hX 5 rfl;have y6:=Aa hX 6 rfl;have y7:=Aa hX 7 rfl;have y8:=Aa hX 8 rfl;have y9:=Aa hX 9 rfl;have y10:=Aa hX 10 rfl;have y11:=Aa hX 11 rfl;have yE:W.cell? ⟨E,0,none⟩=some v:=Aa hE 0 rfl;simp at hA hB;clear hX hE hs;simp [results,Tryz.results89,go_sem,hA,hB,y0,y1,y2,y3,y4,y5,y6,y7,y8,y9,y10,y11,yE]
theorem FI(t:Array Value)(X E:Nat)(c:Int)(v:Value)(xs:Array Value)(R:Ending→World→Prop)(W:World)(hA:t.getD 2 undef=.pointer (some ⟨X,0,none⟩))(hC:t.getD 3 undef=.pointer (some ⟨E,0,none⟩))(hX:W.heap[X]?=some (.cells xs 30 (0,0)))(hs:xs.size=12)(hE:W.heap[E]?=some (.cells #[v] 40 (0,0)))(hD:X≠E)
  (hR:∀W',(∀B,B≤X→B≤E→Below B W W')→R (.returned (.tuple #[.agg CJ,int i64 c])) W') :
  bodyPostM Fence.wide 0 Tryz.prog Tryz.f89 R (.panic (Aw c)) { tmps:=t,defers:=[dfr X E] } W:=by
 refine ⟨by simp,.inr ⟨by simp [Fence.wide],.func 118,#[.pointer (some ⟨X,0,none⟩),.pointer (some ⟨E,0,none⟩)],118,#[.pointer (some ⟨X,0,none⟩),.pointer (some ⟨E,0,none⟩)],rfl,by simp [dfr,go_sem],λ_ _=>trivial,((Gn X E c v xs [] W hE hX hs hD).mono ?_)⟩⟩;rintro e u' W' ⟨rfl,rfl,gE,gX,hb,hB⟩;exact ⟨_,Gf t X E _ _ W' hA hC gX rfl gE,hR W' hB⟩
theorem GZ(t:Array Value)(X E D:Nat)(c:Int)(v:Value)(xs:Array Value)(R:Ending→World→Prop)(W:World)(hA:t.getD 2 undef=.pointer (some ⟨X,0,none⟩))(hC:t.getD 3 undef=.pointer (some ⟨E,0,none⟩))(hX:W.heap[X]?=some (.cells xs 30 (0,0)))(hs:xs.size=12)(hE:W.heap[E]?=some (.cells #[v] 40 (0,0)))(hF:X≠E)(hD:W.heap[D]?=some (.deferred (some [])))
  (hR:∀W',(∀B,B≤X→B≤E→B≤D→Below B W W')→R (.returned (.tuple #[.agg CJ,int i64 c])) W') :
  bodyPostM Fence.wide 0 Tryz.prog Tryz.f89 R (.panic (Aw c)) { tmps:=t,defers:=[{ target:=.collected D,args:=#[] },dfr X E] } W:=by
 have nX:X≠D:=λe=>by rw [e,hD] at hX;cases hX
 have nE:E≠D:=λe=>by rw [e,hD] at hE;cases hE
 refine ⟨by simp,.inl ⟨D,_,rfl,run_takeDeferred hD,?_⟩⟩;refine FI t X E c v xs R _ hA hC ((World.putObj_heap_other nX).trans hX) hs ((World.putObj_heap_other nE).trans hE) hF λW' hB=>hR W' λB h1 h2 h3=>Below.trans (b:=W.putObj D (.deferred none)) ⟨rfl,rfl,rfl,by simp [World.putObj],λk hk=>World.putObj_heap_other (by omega)⟩ (hB B h1 h2)
theorem Ps(t:Array Value)(X E D:Nat)(v:Value)(xs:Array Value)(R:Ending→World→Prop)(W:World)(hA:t.getD 2 undef=.pointer (some ⟨X,0,none⟩))(hB:t.getD 3 undef=.pointer (some ⟨E,0,none⟩))(hX:W.heap[X]?=some (.cells xs 30 (0,0)))(hs:xs.size=12)(hE:W.heap[E]?=some (.cells #[v] 40 (0,0)))(hD:W.heap[D]?=some (.deferred (some [])))
  (hR:R (.returned (.tuple #[.agg xs,v])) (W.putObj D (.deferred none))) :
  bodyPostM Fence.wide 0 Tryz.prog Tryz.f89 R .ret { tmps:=t,defers:=[{ target:=.collected D,args:=#[] },dfr X E] } W:=by
 have nX:X≠D:=λe=>by rw [e,hD] at hX;cases hX
 have nE:E≠D:=λe=>by rw [e,hD] at hE;cases hE
 refine ⟨by simp,.inl ⟨D,_,rfl,run_takeDeferred hD,?_⟩⟩;refine ⟨by simp,.inr ⟨by simp [Fence.wide],.func 118,#[.pointer (some ⟨X,0,none⟩),.pointer (some ⟨E,0,none⟩)],118,#[.pointer (some ⟨X,0,none⟩),.pointer (some ⟨E,0,none⟩)],rfl,by simp [dfr,go_sem],λ_ _=>trivial,((Lx ⟨X,0,none⟩ ⟨E,0,none⟩ _).mono ?_)⟩⟩;rintro e u' W' ⟨rfl,rfl,rfl⟩;exact ⟨_,Gf t X E _ _ _ hA hB ((World.putObj_heap_other nX).trans hX) hs ((World.putObj_heap_other nE).trans hE),hR⟩
end
end Go.Proofs.YtbkemlgfdklpfaaGreatDoor
