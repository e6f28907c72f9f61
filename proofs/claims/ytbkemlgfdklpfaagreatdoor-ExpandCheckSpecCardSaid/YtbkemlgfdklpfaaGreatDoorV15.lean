/- Contracts and plain laws on the way to the statement: part 15. -/
import Derived.Test.YtbkemlgfdklpfaaGreatDoorV14
import Derived.Maps.AppendAt
import Derived.Test.YtbkemlgfdklpfaaGreatDoorV4
set_option linter.unusedVariables false
set_option linter.unusedSimpArgs false
set_option maxRecDepth 100000
set_option maxHeartbeats 16000000
namespace Go.Proofs.YtbkemlgfdklpfaaGreatDoor
open Go.Value (int)
open Go.IntKind (i64)
section
open Go Go.RowKit Go.Deep
theorem Gs{w:World}(base:Nat)(t ty e:TypeId)(i:TypeInfo)(size c:Nat)(ht:Tryz.prog.underlying t=some (.slice e))(hi:Tryz.prog.info? e=some i)
  (v:Value) (n:Nat) (xs:List Value) (hA:w.ownsRow base e size v n xs) :
  (Builtin.append_ #[t,t] ty #[v,.slice none 0 c]).run Tryz.prog w=.ok v w:=by
 rcases hA.2 with ⟨rfl,rfl⟩|⟨g,cap,cur,rfl,_,_,hB,_⟩
 ·simp [Builtin.append_,run_underlying ht,sizeOf,typeInfo,hi,Builtin.lenOf,Builtin.firstCells]
 ·simp [Builtin.append_,run_underlying ht,sizeOf,typeInfo,hi,Builtin.lenOf,Builtin.firstCells,hB,storeCells]
theorem N5{ops:Array Oper}{rest:List Oper}{o:Oper}{a:Act}{Q:Exit→Act→World→Prop}{w:World}(hH:o.guard=none)(s x:Operand)(t:TypeId)
  (ho:o.op=.call { callee:=.builtin .append,args:=#[s,x],argTypes:=#[t,t] })
  (base:Nat) (e:TypeId) (i:TypeInfo) (z:Value) (size bytes:Nat) (ht:Tryz.prog.underlying t=some (.slice e)) (hi:Tryz.prog.info? e=some i) (hz:i.zero=some z)
  (hC:i.size=size) (hI:i.bytes=bytes) (hJ:z.cells.size=size) (hL:0<size)
  (v:Value) (n:Nat) (xs:List Value) (hs:a.eval s=v) (hA:w.ownsRow base e size v n xs)
  (ao:Option Addr) (m c:Nat) (news:List Value) (hx:a.eval x=.slice ao m c) (hl:news.length=m*size) (hD:ao=none→m=0)
  (hE:∀ad,ao=some ad→∀j u,news[j]?=some u→w.cell? (ad.add j)=some u) (h1:∀u∈news,u.oneCell'=true)
  (hM:n+m≤maxLen) (hB:(n+m)*bytes≤140737488355328) (hF:base≤w.heap.size)
  (h:∀v' w',w'.ownsRow base e size v' (n+m) (xs++news)→w.grownBy w' v.ownBlock→(v'.ownBlock=v.ownBlock∨v'.ownBlock=some w.heap.size)→wpList Tryz.prog ops Q rest (a.put o.dst v') w'):wpList Tryz.prog ops Q (o::rest) a w:=by
 cases ao with
 | some ad=>exact wpList_append_own_at _ hH s x t ho base e i z size bytes ht hi hz hC hI hJ hL v n xs hs hA ad m c news hx hl (hE ad rfl) h1 hM hB hF λv' w' h1 h2 _ h4=>h v' w' h1 h2 h4
 | none =>
  obtain rfl:=hD rfl;obtain rfl:news=[]:=List.length_eq_zero_iff.1 (by omega);refine wpList_plain hH λK hK=>?_
  have hG:=Gs (w:=w) base t o.type e i size c ht hi v n xs hA;unfold Oper.wp;simp [execOp,ho,resolve,invoke,builtin,hs,hx,hG,Result.andThen];exact hK _ _ (h v w (by simpa using hA) ⟨rfl,rfl,rfl,qn _,λ_ _ _=>rfl⟩ (Or.inl rfl))
theorem B9{w w':World}{B e s n:Nat}{v:Value}{xs:List Value}(h:w.ownsRow B e s v n xs)(hb:Below w.heap.size w w'):w'.ownsRow B e s v n xs :=
 h.kept (row:=none) ⟨hb.os,hb.tape,hb.output,hb.size,λk hk _=>hb.block k hk⟩ (by cases hv:v.ownBlock<;>simp)
end
end Go.Proofs.YtbkemlgfdklpfaaGreatDoor
