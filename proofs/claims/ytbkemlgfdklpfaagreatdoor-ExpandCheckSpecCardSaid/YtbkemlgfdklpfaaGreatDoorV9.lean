/- Contracts and plain laws on the way to the statement: part 9. -/
import Derived.WalkKit
import Derived.Deep.Draws
import Derived.Lib.Hide
import Derived.Deep.Slices
import Derived.Carry
import Derived.SizedLaws
import Derived.ProofKit
import Derived.Test.YtbkemlgfdklpfaaGreatDoorV4
set_option linter.unusedVariables false
set_option linter.unusedSimpArgs false
set_option maxRecDepth 100000
set_option maxHeartbeats 16000000
namespace Go.Proofs.YtbkemlgfdklpfaaGreatDoor
open Go.Value (int)
open Go.IntKind (i64)
section
open Go.ChangeShapes Go.WideShapes Go.ChangeAt Go.RowKit Go.Deep
def AtRow{α:Type}(enc:α→List Value)(k:Nat)(w:World)(b o:Nat)(xs:List α):Prop :=
 ∀(i:Nat) (x:α),xs[i]?=some x→∀(j:Nat) (v:Value),(enc x)[j]?=some v→w.cell? ⟨b,o+i*k+j,none⟩=some v
def IsRow{α:Type}(enc:α→List Value)(k:Nat)(w:World)(v:Value)(xs:List α):Prop :=
 ∃ao c,v=.slice ao xs.length c∧xs.length≤maxLen∧(xs=[]∨∃b o,ao=some ⟨b,o,none⟩∧AtRow enc k w b o xs∧b<w.heap.size)
section
variable {α:Type} {enc:α→List Value} {k:Nat}
theorem AtRow.below{w w':World}{b o B:Nat}{xs:List α}(h:AtRow enc k w b o xs)(hb:Below B w w')(hB:b<B):AtRow enc k w' b o xs:=by
 intro i x hx j v hv;rw [hb.cell (p:=⟨b,o+i*k+j,none⟩) hB];exact h i x hx j v hv
theorem IsRow.below{w w':World}{v:Value}{B:Nat}{xs:List α}(h:IsRow enc k w v xs)(hb:Below B w w')(hB:w.heap.size≤B):IsRow enc k w' v xs:=by
 obtain ⟨ao,c,e,hl,h⟩:=h;refine ⟨ao,c,e,hl,?_⟩;rcases h with h|⟨b,o,e2,ha,hA⟩
 ·exact Or.inl h
 ·exact Or.inr ⟨b,o,e2,ha.below hb (by omega),Nat.lt_of_lt_of_le hA hb.size⟩
theorem IsRow.nil{w:World}{ao:Option Addr}{c:Nat}:IsRow enc k w (.slice ao 0 c) ([]:List α):=⟨ao,c,rfl,Nat.zero_le _,Or.inl rfl⟩
theorem IsRow.block{w:World}{ao:Option Addr}{n c i:Nat}{xs:List α}{x:α}(h:IsRow enc k w (.slice ao n c) xs)(hx:xs[i]?=some x) :
  ∃b o,ao=some ⟨b,o,none⟩∧AtRow enc k w b o xs∧b<w.heap.size:=by
 obtain ⟨ao',c',e,_,h⟩:=h;injection e with e1 e2 e3;rcases h with h|⟨b,o,e4,h1,h2⟩
 ·rw [h] at hx;simp at hx
 ·exact ⟨b,o,e1.trans e4,h1,h2⟩
end
theorem Bc(b o j:Nat):((⟨b,o,none⟩:Addr).add j)=⟨b,o+j,none⟩:=by unfold Addr.add;split<;>simp_all
section
variable {H:Type} {et:TypeId×Value→H} {P:Program} {W:World} {α:Type} [Inhabited α] {enc:α→List Value}
theorem CW{t e:TypeId}{k n:Nat}{c:Value}{y:DataW H×List MemPlace}(ht:P.underlying t=some (.slice e))(hk:P.cellsOf e=k)(hJ:0<k)
  (hK:∀n cs y,DataW.trod et P W 0 (λ_=>true) true n e cs=some y→∃x:α,cs=enc x)
  (h:DataW.trod et P W 0 (λ_=>true) true n t [c]=some y):∃xs:List α,IsRow enc k W c xs:=by
 rcases open_slice ht h with ⟨hA,hx⟩|⟨a,len,cap,m,n',D,Pl,hA,hb,hl,hm,hL,hx,hi⟩
 ·injection hA with hA _
  subst hA;exact ⟨[],IsRow.nil⟩
 ·injection hA with hA _
  subst hA;have hM:m=cap:=by simpa using hL
  subst hM;rw [hk] at hi
  have hC:∀i,i<len→∃x:α,∀j v,(enc x)[j]?=some v→W.cell? (a.add (i*k+j))=some v:=by
   intro i hB;obtain ⟨cs',h1,h2⟩:=hi i (by omega);obtain ⟨x,hx⟩:=hK _ _ _ h2;subst hx;obtain ⟨_,hH,hD⟩:=World.cells?_some h1;refine ⟨x,λj v hv=>?_⟩;have hj:j<k:=by rw [← hH];exact (ql.1 hv).1
   have:=hD j hj;rw [Go.Deep.add_add,hv] at this;exact this
  have hE:∀i,i<len→∃v,W.cell? (a.add (i*k))=some v:=by
   intro i hB;obtain ⟨cs',h1,h2⟩:=hi i (by omega);obtain ⟨_,hH,hD⟩:=World.cells?_some h1;have:=hD 0 hJ;rw [Go.Deep.add_add,Nat.add_zero] at this;rw [this];exact ⟨_,qg (by omega)⟩
  obtain ⟨f,hN⟩:=choose_lt hC;refine ⟨(List.range len).map f,some a,m,by simp,by simp;omega,?_⟩;by_cases h0:len=0
  ·subst h0;exact Or.inl rfl
  ·right
   obtain ⟨v0,hI⟩:=hE 0 (by omega);have hO:=World.cell?_spot hI;obtain ⟨b,o,sp⟩:=a;have hF:sp=none:=by simpa [Addr.add] using hO
   subst hF;refine ⟨b,o,rfl,?_,?_⟩
   ·intro i x hx j v hv
    have hB:i<len:=by
     have:=ql.1 hx;obtain ⟨h1,_⟩:=this;simpa using h1
    have hP:f i=x:=by simpa [hB] using hx
    have g1:=hN i hB j v (by rw [hP];exact hv);rw [Bc,← Nat.add_assoc] at g1;exact g1
   ·have hG:=hI
    rw [Nat.zero_mul] at hG;unfold World.cell? at hG;rcases Nat.lt_or_ge b W.heap.size with h1|h1
    ·exact h1
    ·simp [Addr.add,Array.getElem?_eq_none h1] at hG
end
end
end Go.Proofs.YtbkemlgfdklpfaaGreatDoor
