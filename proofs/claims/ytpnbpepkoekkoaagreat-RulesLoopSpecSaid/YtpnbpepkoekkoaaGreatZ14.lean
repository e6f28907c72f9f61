/- Contracts and plain laws on the way to the statement: part 14. -/
import Derived.Test.YtpnbpepkoekkoaaGreatZ13
import Derived.Maps.AppendAt
import Derived.Test.YtpnbpepkoekkoaaGreatZ3
set_option linter.unusedVariables false
set_option linter.unusedSimpArgs false
set_option maxRecDepth 100000
set_option maxHeartbeats 16000000
namespace Go.Proofs.YtpnbpepkoekkoaaGreat
open Go.Value (int)
open Go.IntKind (i64)
section
open Go Go.RowKit Go.Deep
theorem Gy{w:World}(base:Nat)(t ty e:TypeId)(i:TypeInfo)(size c:Nat)(ht:Tryz.prog.underlying t=some (.slice e))(hi:Tryz.prog.info? e=some i)
  (v:Value) (n:Nat) (xs:List Value) (hA:w.ownsRow base e size v n xs) :
  (Builtin.append_ #[t,t] ty #[v,.slice none 0 c]).run Tryz.prog w=.ok v w:=by
 rcases hA.2 with ⟨rfl,rfl⟩|⟨g,cap,cur,rfl,_,_,hB,_⟩
 ·simp [Builtin.append_,run_underlying ht,sizeOf,typeInfo,hi,Builtin.lenOf,Builtin.firstCells]
 ·simp [Builtin.append_,run_underlying ht,sizeOf,typeInfo,hi,Builtin.lenOf,Builtin.firstCells,hB,storeCells]
theorem AL{ops:Array Oper}{rest:List Oper}{o:Oper}{a:Act}{Q:Exit→Act→World→Prop}{w:World}(hH:o.guard=none)(s x:Operand)(t:TypeId)
  (ho:o.op=.call { callee:=.builtin .append,args:=#[s,x],argTypes:=#[t,t] })
  (base:Nat) (e:TypeId) (i:TypeInfo) (z:Value) (size bytes:Nat) (ht:Tryz.prog.underlying t=some (.slice e)) (hi:Tryz.prog.info? e=some i) (hz:i.zero=some z)
  (hC:i.size=size) (hI:i.bytes=bytes) (hJ:z.cells.size=size) (hL:0<size)
  (v:Value) (n:Nat) (xs:List Value) (hs:a.eval s=v) (hA:w.ownsRow base e size v n xs)
  (ao:Option Addr) (m c:Nat) (news:List Value) (hx:a.eval x=.slice ao m c) (hl:news.length=m*size) (hD:ao=none→m=0)
  (hE:∀ad,ao=some ad→∀j u,news[j]?=some u→w.cell? (ad.add j)=some u) (h1:∀u∈news,u.oneCell'=true)
  (hM:n+m≤maxLen) (hB:(n+m)*bytes≤140737488355328) (hF:base≤w.heap.size)
  (h:∀v' w',w'.ownsRow base e size v' (n+m) (xs++news)→w.grownBy w' v.ownBlock→(v'.ownBlock=v.ownBlock∨v'.ownBlock=some w.heap.size)→wpList Tryz.prog ops Q rest (a.put o.dst v') w'):wpList Tryz.prog ops Q (o::rest) a w:=by
 cases ao with
 | some ad=>exact wpList_append_own_at _ hH s x t ho base e i z size bytes ht hi hz hC hI hJ hL v n xs hs hA ad m c news hx hl (hE ad rfl) h1 hM hB hF λv' w' h1 h2 _ h4=>h v' w' h1 h2 h4
 | none =>
  obtain rfl:=hD rfl;obtain rfl:news=[]:=List.length_eq_zero_iff.1 (by omega);refine wpList_plain hH λK hK=>?_
  have hG:=Gy (w:=w) base t o.type e i size c ht hi v n xs hA;unfold Oper.wp;simp [execOp,ho,resolve,invoke,builtin,hs,hx,hG,Result.andThen];exact hK _ _ (h v w (by simpa using hA) ⟨rfl,rfl,rfl,qn _,λ_ _ _=>rfl⟩ (Or.inl rfl))
theorem GF{w':World}{B e k n:Nat}{v:Value}{news:List Value}(_:0<k)(h:w'.ownsRow B e k v n news) :
  ∃ao c,v=.slice ao n c∧(n=0∨(ao=some ⟨blk ao,0,none⟩∧B≤blk ao∧FreeB w' (blk ao)))∧(ao=none→n=0)∧(ao=none∨ao=some ⟨blk ao,0,none⟩)∧v.ownBlock=ao.map (·.block)∧∀j u,news[j]?=some u→w'.cell? ⟨blk ao,0+j,none⟩=some u:=by
 rcases h.2 with ⟨rfl,rfl⟩|⟨g,cap,cur,rfl,hg,hh,hn,_,hA,ht⟩
 ·refine ⟨none,0,rfl,Or.inl rfl,λ_=>rfl,Or.inl rfl,rfl,λj u hj=>?_⟩
  have h1:=h.1;rw [Nat.zero_mul] at h1;obtain rfl:=List.length_eq_zero_iff.1 h1;cases hj
 ·refine ⟨_,cap,rfl,Or.inr ⟨rfl,hg,cur,e,hh⟩,by simp,Or.inr rfl,rfl,λj u hj=>?_⟩
  rw [← ht,List.getElem?_take] at hj
  split at hj
  ·rw [Nat.zero_add];exact Aa hh j (by rw [← Array.getElem?_toList];exact hj)
  ·cases hj
def Lt.Inn(W:World):Lt→List Int→List Value→Prop
 | .nil,ns,xs=>ns=[]∧xs=[]
 | .cons k n un ia ic its ma mc ms r, ns, xs => ∃ (u : Int) (n1 n2 n3 : List Int) (ys : List Value), ns = u :: (n1 ++ (n2 ++ n3)) ∧
   xs=int i64 k::int i64 n::sv un::int i64 u::.slice ia its.len ic::.slice ma ms.length mc::ys ∧
   ((ms=[]∨ma=some ⟨blk ma,off ma,none⟩)∧ms.length≤maxLen∧B8 W (blk ma) (off ma) ms∧NsAt W (Aq (blk ma) (off ma) ms) n1) ∧
   ((its.len=0∨ia=some ⟨blk ia,off ia,none⟩)∧its.len≤maxLen∧its.At W (blk ia) (off ia)∧NsAt W (its.refsL (blk ia) (off ia)) n2)∧r.Inn W n3 ys
theorem Lt.Inn.app{W:World}:∀{A B:Lt} {ns ks:List Int} {xs ys:List Value},A.Inn W ns xs→B.Inn W ks ys→(A.app B).Inn W (ns++ks) (xs++ys)
 | .nil,B,_,_,_,_,⟨h1,h2⟩,hB=>by rw [h1,h2];exact hB
 | .cons _ _ _ _ _ _ _ _ _ r,B,_,ks,_,ys,⟨u,n1,n2,n3,zs,h1,h2,h3,h4,h5⟩,hB =>
  ⟨u,n1,n2,n3++ks,zs++ys,by rw [h1];simp,by rw [h2];simp,h3,h4,h5.app hB⟩
theorem Lt.Inn.row{W:World}{g:Nat}:∀{A:Lt} {o:Nat} {ns:List Int} {xs:List Value},A.Inn W ns xs→(∀j u,xs[j]?=some u→W.cell? ⟨g,o+j,none⟩=some u)→A.At W g o∧NsAt W (A.refsL g o) ns
 | .nil,_,_,_,⟨h1,_⟩,_=>by rw [h1];exact ⟨trivial,trivial⟩
 | .cons k n un ia ic its ma mc ms r,o,_,_,⟨u,n1,n2,n3,zs,h1,h2,⟨m1,m2,m3,m4⟩,⟨i1,i2,i3,i4⟩,h5⟩,hc=>by
  rw [h2] at hc
  obtain ⟨r1,r2⟩:=h5.row (o:=o+6) (λj u hj=>by
   have:=hc (j+6) u (by simpa using hj)
   rw [show o+6+j=o+(j+6) by omega];exact this)
  rw [h1];exact ⟨⟨⟨hc 0 _ rfl,hc 1 _ rfl,hc 2 _ rfl,hc 4 _ rfl,hc 5 _ rfl⟩,⟨m1,m2,m3⟩,⟨i1,i2,i3⟩,r1⟩,⟨hc 3 _ rfl,m4.append (i4.append r2)⟩⟩
theorem Ge{b o:Nat}{ms:List Mov}{x:RefL}(h:x∈Aq b o ms):x.b=b:=(BC h).1
theorem Lt.Inn.kept{W W':World}:∀{A:Lt} {ns:List Int} {xs:List Value},A.Inn W ns xs→(∀c∈A.blocks,∀q v,W.cell? ⟨c,q,none⟩=some v→W'.cell? ⟨c,q,none⟩=some v)→A.Inn W' ns xs
 | .nil,_,_,h,_=>h
 | .cons k n un ia ic its ma mc ms r,_,_,⟨u,n1,n2,n3,zs,h1,h2,⟨m1,m2,m3,m4⟩,⟨i1,i2,i3,i4⟩,h5⟩,hc=>by
  refine ⟨u,n1,n2,n3,zs,h1,h2,⟨m1,m2,?_,?_⟩,⟨i1,i2,?_,?_⟩,h5.kept λc hA=>hc c (by simp [Lt.blocks,hA])⟩
  ·by_cases hm:ms=[]
   ·subst hm;trivial
   ·exact BR m3 λq v _=>hc _ (by simp [Lt.blocks,hm]) q v
  ·exact m4.kept λx hx v hv=>by
    have hm:=Dx hx;rw [Ge hx] at hv ⊢;exact hc _ (by simp [Lt.blocks,hm]) _ _ hv
  ·by_cases hi:its.len=0
   ·rw [Lt.len_zero hi];trivial
   ·exact i3.kept (λq v _=>hc _ (by simp [Lt.blocks,hi]) q v) (λc hA=>hc c (by simp [Lt.blocks,hA]))
  ·exact i4.kept λx hx v hv=>by
    have hi:its.len≠0:=λe=>by rw [Lt.len_zero e] at hx;cases hx
    rcases Lt.refsL_mem hx with ⟨e,_⟩|e
    ·rw [e] at hv ⊢;exact hc _ (by simp [Lt.blocks,hi]) _ _ hv
    ·exact hc _ (by simp [Lt.blocks,e]) _ _ hv
theorem Dq{w w':World}{B e s n:Nat}{v:Value}{xs:List Value}(h:w.ownsRow B e s v n xs)(hb:Below w.heap.size w w'):w'.ownsRow B e s v n xs :=
 h.kept (row:=none) ⟨hb.os,hb.tape,hb.output,hb.size,λk hk _=>hb.block k hk⟩ (by cases hv:v.ownBlock<;>simp)
end
end Go.Proofs.YtpnbpepkoekkoaaGreat
