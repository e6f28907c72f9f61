/- Contracts and plain laws on the way to the statement: part 14. -/
import Derived.Test.YtbkemlgfdklpfaaGreatDoorV13
import Derived.Lib.SliceRun
import Derived.WalkKit
import Derived.WideShapes
import Derived.Test.YtbkemlgfdklpfaaGreatDoorV4
set_option linter.unusedVariables false
set_option linter.unusedSimpArgs false
set_option maxRecDepth 100000
set_option maxHeartbeats 16000000
namespace Go.Proofs.YtbkemlgfdklpfaaGreatDoor
open Go.Value (int)
open Go.IntKind (i64)
section
open Go Go.RowKit
theorem Tj:(Tryz.prog.info? 58).map (λi=>(i.zero,i.size,i.bytes))=some (some (.agg #[.string ⟨#[]⟩,.slice none 0 0]),2,40):=by kernel_rfl
theorem Mz(ao:Option Addr)(n c:Nat)(news:List Value)(w:World)(hl:news.length=n*2)(hn:n≤100000)(hA:ao=none→n=0)(hc:∀a,ao=some a→∀j u,news[j]?=some u→w.cell? (a.add j)=some u)(h1:∀u∈news,u.oneCell'=true) :
  Calls Tryz.prog 127 #[.slice ao n c] w λe w'=>∃v',e=.returned v'∧w'.ownsRow w.heap.size 58 2 v' n news∧Below w.heap.size w w':=by
 have q22:∀(w:World) (a:Option Addr) (n c n' c':Nat),(binOp .eql 27 (.slice a n c) (.slice none n' c')).run Tryz.prog w=.ok (.bool a.isNone) w:=λw a n c n' c'=>Lib.run_eql_slice_nil w _ _ a n c n' c' Tryz.underlying27
 cases ao with
 | none =>
  obtain rfl:=hA rfl;obtain rfl:news=[]:=List.length_eq_zero_iff.1 (by omega);clear hc h1 hA;go_enter Tryz.func127,Tryz.ntmps127;go_wp2_with fail;go_ret;exact ⟨_,rfl,World.ownsRow_nil _ _ _ _,Below.refl _ _⟩
 | some a =>
  have hD:=hc a rfl;obtain ⟨i0,hi,hF,hG,hH⟩:=info_parts Tj;have hE:∀o:Obj,∀j u,news[j]?=some u→(w.alloc o).cell? (a.add j)=some u:=λo j u h=>Ad ((Below.refl _ w).alloc (qn _) o) (hD j u h)
  have HC:=qh hE;have H1:=qh h1;clear hc hD hE hA h1;go_enter Tryz.func127,Tryz.ntmps127
  go_wp2_with (at_builtin;refine wpList_append_own _ rfl _ _ 27 rfl w.heap.size 58 i0 (.agg #[.string ⟨#[]⟩,.slice none 0 0]) 2 40 Tryz.underlying27 hi hF hG hH rfl (by decide) _ _ _ rfl (World.ownsRow_made w #[] 0 (qn _) (Nat.zero_le _) (by simp)) a n c news rfl hl (HC.out _) H1.out (by unfold maxLen;omega) (by omega) (by simp) ?_);intro v' w1 hC hB hI;go_wp2_with fail;go_ret;exact ⟨v',rfl,by simpa using hC,((Below.refl _ w).alloc (qn _) _).grown hB (by simp) (by intro k hk;simp [Value.ownBlock] at hk;omega)⟩
theorem Tk:(Tryz.prog.info? 64).map (λi=>(i.zero,i.size,i.bytes))=some (some (.agg #[.string ⟨#[]⟩,int i64 0,.string ⟨#[]⟩,int i64 0,int i64 0,.bool false]),6,64):=by kernel_rfl
theorem MA(ao:Option Addr)(n c:Nat)(news:List Value)(w:World)(hl:news.length=n*6)(hn:n≤100000)(hA:ao=none→n=0)(hc:∀a,ao=some a→∀j u,news[j]?=some u→w.cell? (a.add j)=some u)(h1:∀u∈news,u.oneCell'=true) :
  Calls Tryz.prog 128 #[.slice ao n c] w λe w'=>∃v',e=.returned v'∧w'.ownsRow w.heap.size 64 6 v' n news∧Below w.heap.size w w':=by
 have q22:∀(w:World) (a:Option Addr) (n c n' c':Nat),(binOp .eql 28 (.slice a n c) (.slice none n' c')).run Tryz.prog w=.ok (.bool a.isNone) w:=λw a n c n' c'=>Lib.run_eql_slice_nil w _ _ a n c n' c' Tryz.underlying28
 cases ao with
 | none =>
  obtain rfl:=hA rfl;obtain rfl:news=[]:=List.length_eq_zero_iff.1 (by omega);clear hc h1 hA;go_enter Tryz.func128,Tryz.ntmps128;go_wp2_with fail;go_ret;exact ⟨_,rfl,World.ownsRow_nil _ _ _ _,Below.refl _ _⟩
 | some a =>
  have hD:=hc a rfl;obtain ⟨i0,hi,hF,hG,hH⟩:=info_parts Tk;have hE:∀o:Obj,∀j u,news[j]?=some u→(w.alloc o).cell? (a.add j)=some u:=λo j u h=>Ad ((Below.refl _ w).alloc (qn _) o) (hD j u h)
  have HC:=qh hE;have H1:=qh h1;clear hc hD hE hA h1;go_enter Tryz.func128,Tryz.ntmps128
  go_wp2_with (at_builtin;refine wpList_append_own _ rfl _ _ 28 rfl w.heap.size 64 i0 (.agg #[.string ⟨#[]⟩,int i64 0,.string ⟨#[]⟩,int i64 0,int i64 0,.bool false]) 6 64 Tryz.underlying28 hi hF hG hH rfl (by decide) _ _ _ rfl (World.ownsRow_made w #[] 0 (qn _) (Nat.zero_le _) (by simp)) a n c news rfl hl (HC.out _) H1.out (by unfold maxLen;omega) (by omega) (by simp) ?_);intro v' w1 hC hB hI;go_wp2_with fail;go_ret;exact ⟨v',rfl,by simpa using hC,((Below.refl _ w).alloc (qn _) _).grown hB (by simp) (by intro k hk;simp [Value.ownBlock] at hk;omega)⟩
theorem Tl:(Tryz.prog.info? 121).map (λi=>(i.zero,i.size,i.bytes))=some (some (.agg #[int i64 0,int i64 0,.string ⟨#[]⟩,int i64 0,.slice none 0 0,.slice none 0 0]),6,88):=by kernel_rfl
theorem MC(ao:Option Addr)(n c:Nat)(news:List Value)(w:World)(hl:news.length=n*6)(hn:n≤100000)(hA:ao=none→n=0)(hc:∀a,ao=some a→∀j u,news[j]?=some u→w.cell? (a.add j)=some u)(h1:∀u∈news,u.oneCell'=true) :
  Calls Tryz.prog 150 #[.slice ao n c] w λe w'=>∃v',e=.returned v'∧w'.ownsRow w.heap.size 121 6 v' n news∧Below w.heap.size w w':=by
 have q22:∀(w:World) (a:Option Addr) (n c n' c':Nat),(binOp .eql 55 (.slice a n c) (.slice none n' c')).run Tryz.prog w=.ok (.bool a.isNone) w:=λw a n c n' c'=>Lib.run_eql_slice_nil w _ _ a n c n' c' Tryz.underlying55
 cases ao with
 | none =>
  obtain rfl:=hA rfl;obtain rfl:news=[]:=List.length_eq_zero_iff.1 (by omega);clear hc h1 hA;go_enter Tryz.func150,Tryz.ntmps150;go_wp2_with fail;go_ret;exact ⟨_,rfl,World.ownsRow_nil _ _ _ _,Below.refl _ _⟩
 | some a =>
  have hD:=hc a rfl;obtain ⟨i0,hi,hF,hG,hH⟩:=info_parts Tl;have hE:∀o:Obj,∀j u,news[j]?=some u→(w.alloc o).cell? (a.add j)=some u:=λo j u h=>Ad ((Below.refl _ w).alloc (qn _) o) (hD j u h)
  have HC:=qh hE;have H1:=qh h1;clear hc hD hE hA h1;go_enter Tryz.func150,Tryz.ntmps150
  go_wp2_with (at_builtin;refine wpList_append_own _ rfl _ _ 55 rfl w.heap.size 121 i0 (.agg #[int i64 0,int i64 0,.string ⟨#[]⟩,int i64 0,.slice none 0 0,.slice none 0 0]) 6 88 Tryz.underlying55 hi hF hG hH rfl (by decide) _ _ _ rfl (World.ownsRow_made w #[] 0 (qn _) (Nat.zero_le _) (by simp)) a n c news rfl hl (HC.out _) H1.out (by unfold maxLen;omega) (by omega) (by simp) ?_);intro v' w1 hC hB hI;go_wp2_with fail;go_ret;exact ⟨v',rfl,by simpa using hC,((Below.refl _ w).alloc (qn _) _).grown hB (by simp) (by intro k hk;simp [Value.ownBlock] at hk;omega)⟩
theorem Tm:(Tryz.prog.info? 92).map (λi=>(i.zero,i.size,i.bytes))=some (some (.agg #[int i64 0,int i64 0,int i64 0,int i64 0,int i64 0,int i64 0,.string ⟨#[]⟩,int i64 0,int i64 0,int i64 0,int i64 0,int i64 0]),12,104):=by kernel_rfl
theorem MD(ao:Option Addr)(n c:Nat)(news:List Value)(w:World)(hl:news.length=n*12)(hn:n≤100000)(hA:ao=none→n=0)(hc:∀a,ao=some a→∀j u,news[j]?=some u→w.cell? (a.add j)=some u)(h1:∀u∈news,u.oneCell'=true) :
  Calls Tryz.prog 151 #[.slice ao n c] w λe w'=>∃v',e=.returned v'∧w'.ownsRow w.heap.size 92 12 v' n news∧Below w.heap.size w w':=by
 have q22:∀(w:World) (a:Option Addr) (n c n' c':Nat),(binOp .eql 88 (.slice a n c) (.slice none n' c')).run Tryz.prog w=.ok (.bool a.isNone) w:=λw a n c n' c'=>Lib.run_eql_slice_nil w _ _ a n c n' c' Tryz.underlying88
 cases ao with
 | none =>
  obtain rfl:=hA rfl;obtain rfl:news=[]:=List.length_eq_zero_iff.1 (by omega);clear hc h1 hA;go_enter Tryz.func151,Tryz.ntmps151;go_wp2_with fail;go_ret;exact ⟨_,rfl,World.ownsRow_nil _ _ _ _,Below.refl _ _⟩
 | some a =>
  have hD:=hc a rfl;obtain ⟨i0,hi,hF,hG,hH⟩:=info_parts Tm;have hE:∀o:Obj,∀j u,news[j]?=some u→(w.alloc o).cell? (a.add j)=some u:=λo j u h=>Ad ((Below.refl _ w).alloc (qn _) o) (hD j u h)
  have HC:=qh hE;have H1:=qh h1;clear hc hD hE hA h1;go_enter Tryz.func151,Tryz.ntmps151
  go_wp2_with (at_builtin;refine wpList_append_own _ rfl _ _ 88 rfl w.heap.size 92 i0 (.agg #[int i64 0,int i64 0,int i64 0,int i64 0,int i64 0,int i64 0,.string ⟨#[]⟩,int i64 0,int i64 0,int i64 0,int i64 0,int i64 0]) 12 104 Tryz.underlying88 hi hF hG hH rfl (by decide) _ _ _ rfl (World.ownsRow_made w #[] 0 (qn _) (Nat.zero_le _) (by simp)) a n c news rfl hl (HC.out _) H1.out (by unfold maxLen;omega) (by omega) (by simp) ?_);intro v' w1 hC hB hI;go_wp2_with fail;go_ret;exact ⟨v',rfl,by simpa using hC,((Below.refl _ w).alloc (qn _) _).grown hB (by simp) (by intro k hk;simp [Value.ownBlock] at hk;omega)⟩
def Cp(w:World)(b o:Nat)(w':World)(g o' m:Nat):Prop:=∀q v,q<m→w.cell? ⟨b,o+q,none⟩=some v→w'.cell? ⟨g,o'+q,none⟩=some v
theorem Cp.from{w w':World}{b o g o' m k:Nat}(h:Cp w b o w' g o' (k+m)):Cp w b (o+k) w' g (o'+k) m:=λq v hq hc=>by
 have:=h (k+q) v (by omega) (by rw [← Nat.add_assoc];exact hc);rw [← Nat.add_assoc] at this;exact this
theorem KH{w w':World}{b g:Nat}:∀{o o':Nat} {ms:List Mov},Be w b o ms→Cp w b o w' g o' (12*ms.length)→Be w' g o' ms
 | _,_,[],_,_=>trivial
 | o,o',m::r,⟨⟨h0,h1,h2,h3,h4,h5,h6,h8,h9,h10,h11⟩,h⟩,hc=>by
  have hA:Cp w b o w' g o' (12+12*r.length):=by rw [show 12+12*r.length=12*(m::r).length by simp;omega];exact hc
  exact ⟨⟨hA 0 _ (by omega) h0,hA 1 _ (by omega) h1,hA 2 _ (by omega) h2,hA 3 _ (by omega) h3,hA 4 _ (by omega) h4,hA 5 _ (by omega) h5,hA 6 _ (by omega) h6,hA 8 _ (by omega) h8,hA 9 _ (by omega) h9,hA 10 _ (by omega) h10,hA 11 _ (by omega) h11⟩,KH h hA.from⟩
theorem KI{w w':World}{b g:Nat}:∀{o o':Nat} {ms:List Mov} {ns:List Int},NsAt w (As b o ms) ns→Cp w b o w' g o' (12*ms.length)→NsAt w' (As g o' ms) ns
 | _,_,[],[],_,_=>trivial
 | o,o',m::r,n::ns,⟨h1,h⟩,hc=>by
  have hA:Cp w b o w' g o' (12+12*r.length):=by rw [show 12+12*r.length=12*(m::r).length by simp;omega];exact hc
  exact ⟨hA 7 _ (by omega) h1,KI h hA.from⟩
 | _,_,[],_::_,h,_=>h.elim
 | _,_,_::_,[],h,_=>h.elim
theorem Lt.At.cp{w w':World}(hb:Below w.heap.size w w'){b g:Nat}:∀{T:Lt} {o o':Nat},T.At w b o→Cp w b o w' g o' (6*T.len)→T.At w' g o'
 | .nil,_,_,_,_=>trivial
 | .cons k n un ia ic its ma mc ms r,o,o',⟨⟨h0,h1,h2,h4,h5⟩,⟨m1,m2,m3⟩,⟨i1,i2,i3⟩,hr⟩,hc=>by
  have hA:Cp w b o w' g o' (6+6*r.len):=by rw [show 6+6*r.len=6*(Lt.cons k n un ia ic its ma mc ms r).len by simp [Lt.len];omega];exact hc
  exact ⟨⟨hA 0 _ (by omega) h0,hA 1 _ (by omega) h1,hA 2 _ (by omega) h2,hA 4 _ (by omega) h4,hA 5 _ (by omega) h5⟩,⟨m1,m2,Cf m3 hb⟩,⟨i1,i2,i3.below hb⟩,Lt.At.cp hb hr hA.from⟩
theorem Lt.ns_cp{w w':World}(hb:Below w.heap.size w w'){b g:Nat}:∀{T:Lt} {o o':Nat} {ns:List Int},NsAt w (T.refsL b o) ns→Cp w b o w' g o' (6*T.len)→NsAt w' (T.refsL g o') ns
 | .nil,_,_,[],_,_=>trivial
 | .nil,_,_,_::_,h,_=>h.elim
 | .cons ..,_,_,[],h,_=>h.elim
 | .cons k n un ia ic its ma mc ms r,o,o',x::ns,⟨h1,h⟩,hc=>by
  have hA:Cp w b o w' g o' (6+6*r.len):=by rw [show 6+6*r.len=6*(Lt.cons k n un ia ic its ma mc ms r).len by simp [Lt.len];omega];exact hc
  obtain ⟨n1,n',rfl,k1,k2⟩:=h.split;obtain ⟨n2,n3,rfl,k3,k4⟩:=k2.split;exact ⟨hA 3 _ (by omega) h1,(k1.below hb).append ((k3.below hb).append (Lt.ns_cp hb k4 hA.from))⟩
theorem PA{w:World}{b:Nat}:∀{o:Nat} {ms:List Mov} {ns:List Int},Be w b o ms→NsAt w (As b o ms) ns→∀q,q<12*ms.length→∃v,w.cell? ⟨b,o+q,none⟩=some v∧v.oneCell'=true
 | _,[],_,_,_,q,hq=>by simp at hq
 | _,_::_,[],_,h,_,_=>h.elim
 | o,m::r,n::ns,⟨⟨h0,h1,h2,h3,h4,h5,h6,h8,h9,h10,h11⟩,h⟩,⟨h7,hn⟩,q,hq=>by
  rcases Nat.lt_or_ge q 12 with hA|hB
  ·have:q=0∨q=1∨q=2∨q=3∨q=4∨q=5∨q=6∨q=7∨q=8∨q=9∨q=10∨q=11:=by omega
   rcases this with rfl|rfl|rfl|rfl|rfl|rfl|rfl|rfl|rfl|rfl|rfl|rfl
   ·exact ⟨_,h0,rfl⟩
   ·exact ⟨_,h1,rfl⟩
   ·exact ⟨_,h2,rfl⟩
   ·exact ⟨_,h3,rfl⟩
   ·exact ⟨_,h4,rfl⟩
   ·exact ⟨_,h5,rfl⟩
   ·exact ⟨_,h6,rfl⟩
   ·exact ⟨_,h7,rfl⟩
   ·exact ⟨_,h8,rfl⟩
   ·exact ⟨_,h9,rfl⟩
   ·exact ⟨_,h10,rfl⟩
   ·exact ⟨_,h11,rfl⟩
  ·obtain ⟨v,hv,h1⟩:=PA h hn (q-12) (by simp at hq;omega)
   refine ⟨v,?_,h1⟩;rw [show o+q=o+12+(q-12) by omega];exact hv
theorem Lt.row{w:World}{b:Nat}:∀{T:Lt} {o:Nat} {ns:List Int},T.At w b o→NsAt w (T.refsL b o) ns→∀q,q<6*T.len→∃v,w.cell? ⟨b,o+q,none⟩=some v∧v.oneCell'=true
 | .nil,_,_,_,_,q,hq=>by simp [Lt.len] at hq
 | .cons k n un ia ic its ma mc ms r,o,ns,hA,hN,q,hq=>by
  obtain ⟨u,g0,g1,g2,g3,g4,g5,n1,n2,n3,rfl,k1,k2,k3⟩:=Lt.At.cells hA hN;rcases Nat.lt_or_ge q 6 with hB|hC
  ·have:q=0∨q=1∨q=2∨q=3∨q=4∨q=5:=by omega
   rcases this with rfl|rfl|rfl|rfl|rfl|rfl
   ·exact ⟨_,g0,rfl⟩
   ·exact ⟨_,g1,rfl⟩
   ·exact ⟨_,g2,rfl⟩
   ·exact ⟨_,g3,rfl⟩
   ·exact ⟨_,g4,rfl⟩
   ·exact ⟨_,g5,rfl⟩
  ·obtain ⟨v,hv,h1⟩:=Lt.row hA.2.2.2 k3 (q-6) (by simp [Lt.len] at hq;omega)
   refine ⟨v,?_,h1⟩;rw [show o+q=o+6+(q-6) by omega];exact hv
def FreeB(w:World)(c:Nat):Prop:=∃cur t,w.heap[c]?=some (.cells cur t (0,0))
theorem FreeB.free{w:World}{c:Nat}(h:FreeB w c)(q:Nat):w.frozen? ⟨c,q,none⟩=false:=by
 obtain ⟨cur,t,h⟩:=h;simp [World.frozen?,h]
theorem FreeB.lt{w:World}{c:Nat}(h:FreeB w c):c<w.heap.size:=by
 obtain ⟨cur,t,h⟩:=h;exact (qs.1 h).1
theorem FreeB.below{w w':World}{c:Nat}(h:FreeB w c)(hb:Below w.heap.size w w'):FreeB w' c:=by
 have hl:=h.lt;obtain ⟨cur,t,h⟩:=h;exact ⟨cur,t,(hb.block _ hl).trans h⟩
theorem FreeB.set{w:World}{c:Nat}(h:FreeB w c)(p:Addr)(v:Value):FreeB (w.setCell p v) c:=by
 obtain ⟨cur,t,h⟩:=h;by_cases e:p.block=c
 ·subst e
  have e:(w.setCell p v).heap[p.block]?=some (.cells (if p.spot.isSome=true then cur else cur.setIfInBounds p.off v) t (0,0)):=by
   simp only [World.setCell,Array.getElem?_modify,h,if_true,Option.map_some]
  exact ⟨_,t,e⟩
 ·exact ⟨cur,t,(Below.heap_setCell _ _ _ _ (λe2=>e e2.symm)).trans h⟩
def RowNew(w w':World)(ao:Option Addr)(n:Nat):Prop:=n=0∨(ao=some ⟨blk ao,0,none⟩∧w.heap.size≤blk ao∧FreeB w' (blk ao))
theorem BU{w w':World}{e k n:Nat}{v:Value}{news:List Value}(hk:0<k)(h:w'.ownsRow w.heap.size e k v n news) :
  ∃ao c,v=.slice ao n c∧RowNew w w' ao n∧(ao=none→n=0)∧∀j u,news[j]?=some u→w'.cell? ⟨blk ao,0+j,none⟩=some u:=by
 rcases h.2 with ⟨rfl,rfl⟩|⟨g,cap,cur,rfl,hg,hh,hn,_,hA,ht⟩
 ·refine ⟨none,0,rfl,Or.inl rfl,λ_=>rfl,λj u hj=>?_⟩
  have h1:=h.1;rw [Nat.zero_mul] at h1;obtain rfl:=List.length_eq_zero_iff.1 h1;cases hj
 ·refine ⟨_,cap,rfl,Or.inr ⟨rfl,hg,cur,e,hh⟩,by simp,λj u hj=>?_⟩
  rw [← ht,List.getElem?_take] at hj
  split at hj
  ·rw [Nat.zero_add];exact Aa hh j (by rw [← Array.getElem?_toList];exact hj)
  ·cases hj
theorem Ft{w:World}{b o m:Nat}(h:∀q,q<m→∃v,w.cell? ⟨b,o+q,none⟩=some v∧v.oneCell'=true) :
  ∃news:List Value,news.length=m∧(∀j u,news[j]?=some u→w.cell? ⟨b,o+j,none⟩=some u)∧(∀u∈news,u.oneCell'=true):=by
 induction m with
 | zero=>exact ⟨[],rfl,λj u h=>(by cases h),λu h=>(by cases h)⟩
 | succ m ih =>
  obtain ⟨news,h1,h2,h3⟩:=ih λq hq=>h q (by omega)
  obtain ⟨v,hv,hA⟩:=h m (by omega);refine ⟨news++[v],by simp [h1],λj u hj=>?_,λu hu=>?_⟩
  ·rcases Nat.lt_or_ge j m with hl|hl
   ·rw [List.getElem?_append_left (by omega)] at hj;exact h2 j u hj
   ·rw [List.getElem?_append_right (by omega)] at hj
    have:j=m:=by
     rcases Nat.lt_or_ge (j-news.length) 1 with h'|h'
     ·omega
     ·rw [List.getElem?_eq_none (by simpa using h')] at hj;cases hj
    subst this;rw [h1,Nat.sub_self] at hj;cases hj;exact hv
  ·rcases List.mem_append.1 hu with hu|hu
   ·exact h3 u hu
   ·rw [List.mem_singleton.1 hu];exact hA
theorem Ni(ma:Option Addr)(mc:Nat)(ms:List Mov)(ns:List Int)(w:World)(hm:ms.length≤100000)(hf:ms=[]∨ma=some ⟨blk ma,off ma,none⟩)(hA:Be w (blk ma) (off ma) ms)(hN:NsAt w (As (blk ma) (off ma) ms) ns) :
  Calls Tryz.prog 151 #[.slice ma ms.length mc] w λe w'=>∃ma' mc',e=.returned (.slice ma' ms.length mc')∧RowNew w w' ma' ms.length∧Be w' (blk ma') 0 ms∧NsAt w' (As (blk ma') 0 ms) ns∧Below w.heap.size w w':=by
 by_cases hz:ms=[]
 ·subst hz
  refine (MD ma 0 mc [] w rfl (Nat.zero_le _) (λ_=>rfl) (λa _ j u hj=>by cases hj) (λu hu=>by cases hu)).mono ?_;rintro e w' ⟨v',rfl,ho,hb⟩;obtain ⟨ao,c,rfl,h1,_,_⟩:=BU (by omega) ho
  cases ns with
  | nil=>exact ⟨ao,c,rfl,h1,trivial,trivial,hb⟩
  | cons=>exact hN.elim
 ·have hB:=hf.resolve_left hz
  obtain ⟨news,l1,l2,l3⟩:=Ft (PA hA hN)
  refine (MD ma ms.length mc news w (by rw [l1];omega) hm (λe=>by rw [e] at hB;cases hB) (λa ha j u hj=>by
   rw [hB] at ha;cases ha;rw [Bc];exact l2 j u hj) l3).mono ?_
  rintro e w' ⟨v',rfl,ho,hb⟩;obtain ⟨ao,c,rfl,h1,_,h3⟩:=BU (by omega) ho
  have hC:Cp w (blk ma) (off ma) w' (blk ao) 0 (12*ms.length):=λq v hq hc=>by
   obtain ⟨u,hu⟩:∃u,news[q]?=some u:=⟨_,qg (by omega)⟩;have:=l2 q u hu;rw [hc] at this;cases this;exact h3 q v hu
  exact ⟨ao,c,rfl,h1,KH hA hC,KI hN hC,hb⟩
theorem IQ(ia:Option Addr)(ic:Nat)(T:Lt)(ns:List Int)(w:World)(hm:T.len≤100000)(hf:T.len=0∨ia=some ⟨blk ia,off ia,none⟩)(hA:T.At w (blk ia) (off ia))(hN:NsAt w (T.refsL (blk ia) (off ia)) ns) :
  Calls Tryz.prog 150 #[.slice ia T.len ic] w λe w'=>∃ia' ic',e=.returned (.slice ia' T.len ic')∧RowNew w w' ia' T.len∧T.At w' (blk ia') 0∧NsAt w' (T.refsL (blk ia') 0) ns∧Below w.heap.size w w':=by
 by_cases hz:T.len=0
 ·obtain rfl:=Lt.len_zero hz
  refine (MC ia 0 ic [] w rfl (Nat.zero_le _) (λ_=>rfl) (λa _ j u hj=>by cases hj) (λu hu=>by cases hu)).mono ?_;rintro e w' ⟨v',rfl,ho,hb⟩;obtain ⟨ao,c,rfl,h1,_,_⟩:=BU (by omega) ho
  cases ns with
  | nil=>exact ⟨ao,c,rfl,h1,trivial,trivial,hb⟩
  | cons=>exact hN.elim
 ·have hB:=hf.resolve_left hz
  obtain ⟨news,l1,l2,l3⟩:=Ft (Lt.row hA hN)
  refine (MC ia T.len ic news w (by rw [l1];omega) hm (λe=>by rw [e] at hB;cases hB) (λa ha j u hj=>by
   rw [hB] at ha;cases ha;rw [Bc];exact l2 j u hj) l3).mono ?_
  rintro e w' ⟨v',rfl,ho,hb⟩;obtain ⟨ao,c,rfl,h1,_,h3⟩:=BU (by omega) ho
  have hC:Cp w (blk ia) (off ia) w' (blk ao) 0 (6*T.len):=λq v hq hc=>by
   obtain ⟨u,hu⟩:∃u,news[q]?=some u:=⟨_,qg (by omega)⟩;have:=l2 q u hu;rw [hc] at this;cases this;exact h3 q v hu
  exact ⟨ao,c,rfl,h1,hA.cp hb hC,Lt.ns_cp hb hN hC,hb⟩
def Lt.small:Lt→Prop
 | .nil=>True
 | .cons _ _ _ _ _ its _ _ ms r=>its.len≤100000∧ms.length≤100000∧its.small∧r.small
def Lt.app:Lt→Lt→Lt
 | .nil,B=>B
 | .cons k n un ia ic its ma mc ms r,B=>.cons k n un ia ic its ma mc ms (r.app B)
def Its.app:Its→Its→Its
 | .nil,B=>B
 | .cons k n un its ms r,B=>.cons k n un its ms (r.app B)
theorem Lt.app_len:∀A B:Lt,(A.app B).len=A.len+B.len
 | .nil,B=>by simp [Lt.app,Lt.len]
 | .cons _ _ _ _ _ _ _ _ _ r,B=>by simp [Lt.app,Lt.len,app_len r B];omega
theorem Lt.app_strip:∀A B:Lt,(A.app B).strip=A.strip.app B.strip
 | .nil,B=>rfl
 | .cons _ _ _ _ _ _ _ _ _ r,B=>by simp [Lt.app,Lt.strip,Its.app,app_strip r B]
theorem Lt.app_blocks:∀A B:Lt,(A.app B).blocks=A.blocks++B.blocks
 | .nil,B=>rfl
 | .cons _ _ _ _ _ _ _ _ _ r,B=>by simp [Lt.app,Lt.blocks,app_blocks r B]
theorem Lt.app_at(w:World)(b:Nat):∀(A B:Lt) (o:Nat),(A.app B).At w b o↔A.At w b o∧B.At w b (o+6*A.len)
 | .nil,B,o=>by simp [Lt.app,Lt.len,Lt.At]
 | .cons _ _ _ _ _ _ _ _ _ r,B,o=>by
  simp only [Lt.app,Lt.At,Lt.len,app_at w b r B (o+6),show o+6+6*r.len=o+6*(r.len+1) by omega,and_assoc]
theorem Lt.app_refs(b:Nat):∀(A B:Lt) (o:Nat),(A.app B).refsL b o=A.refsL b o++B.refsL b (o+6*A.len)
 | .nil,B,o=>by simp [Lt.app,Lt.len,Lt.refsL]
 | .cons _ _ _ _ _ _ _ _ _ r,B,o=>by
  simp only [Lt.app,Lt.refsL,Lt.len,app_refs b r B (o+6),show o+6+6*r.len=o+6*(r.len+1) by omega,List.append_assoc,List.cons_append]
theorem Its.app_assoc:∀A B C:Its,(A.app B).app C=A.app (B.app C)
 | .nil,_,_=>rfl
 | .cons _ _ _ _ _ r,B,C=>by simp [Its.app,app_assoc r B C]
theorem Its.app_nil:∀A:Its,A.app .nil=A
 | .nil=>rfl
 | .cons _ _ _ _ _ r=>by simp [Its.app,app_nil r]
theorem Lt.At.kept2{w w':World}:∀{T:Lt} {b o:Nat},T.At w b o→(∀q v,o≤q→q<o+6*T.len→w.cell? ⟨b,q,none⟩=some v→w'.cell? ⟨b,q,none⟩=some v)→(∀c∈T.blocks,∀q v,w.cell? ⟨c,q,none⟩=some v→w'.cell? ⟨c,q,none⟩=some v)→T.At w' b o
 | .nil,_,_,_,_,_=>trivial
 | .cons k n un ia ic its ma mc ms r,b,o,⟨⟨h0,h1,h2,h4,h5⟩,⟨m1,m2,m3⟩,⟨i1,i2,i3⟩,hr⟩,hk,hc=>by
  have hl:(Lt.cons k n un ia ic its ma mc ms r).len=r.len+1:=rfl;rw [hl] at hk;refine ⟨⟨hk _ _ (qn _) (by omega) h0,hk _ _ (by omega) (by omega) h1,hk _ _ (by omega) (by omega) h2,hk _ _ (by omega) (by omega) h4,hk _ _ (by omega) (by omega) h5⟩,⟨m1,m2,?_⟩,⟨i1,i2,?_⟩,kept2 hr (λq v hq hB=>hk q v (by omega) (by omega)) (λc hA=>hc c (by simp [Lt.blocks,hA]))⟩
  ·by_cases hm:ms=[]
   ·subst hm;trivial
   ·exact Cb m3 λq v _=>hc _ (by simp [Lt.blocks,hm]) q v
  ·by_cases hi:its.len=0
   ·rw [Lt.len_zero hi];trivial
   ·exact i3.kept (λq v _=>hc _ (by simp [Lt.blocks,hi]) q v) (λc hA=>hc c (by simp [Lt.blocks,hA]))
theorem Lt.refsL_mem2:∀{T:Lt} {b o:Nat} {x:RefL},x∈T.refsL b o→(x.b=b∧o+2≤x.o∧x.o+4≤o+6*T.len∧(x.o-o) % 6=2)∨x.b∈T.blocks
 | .nil,_,_,_,h=>by cases h
 | .cons k n un ia ic its ma mc ms r,b,o,x,h=>by
  have hl:(Lt.cons k n un ia ic its ma mc ms r).len=r.len+1:=rfl;simp only [Lt.refsL,List.mem_cons,List.mem_append] at h;rcases h with rfl|h|h|h
  ·exact Or.inl ⟨rfl,qn _,by rw [hl];simp only;omega,by simp only;omega⟩
  ·obtain ⟨h1,_⟩:=BC h
   exact Or.inr (by rw [h1];simp [Lt.blocks,DW h])
  ·have hi:its.len≠0:=λe=>by rw [Lt.len_zero e] at h;cases h
   rcases Lt.refsL_mem h with ⟨h1,_⟩|h1
   ·exact Or.inr (by rw [h1];simp [Lt.blocks,hi])
   ·exact Or.inr (by simp [Lt.blocks,h1])
  ·rcases refsL_mem2 h with ⟨h1,h2,h3,h4⟩|h1
   ·exact Or.inl ⟨h1,by omega,by rw [hl];omega,by omega⟩
   ·exact Or.inr (by simp [Lt.blocks,h1])
def Lt.own(T:Lt)(ao:Option Addr):List Nat:=(if T.len=0 then [] else [blk ao])++T.blocks
def ClP(T:Lt)(ns:List Int)(w:World)(e:Ending)(w':World):Prop :=
 ∃(ao:Option Addr) (c:Nat) (T':Lt),e=.returned (.slice ao T.len c)∧T'.strip=T.strip∧(T.len=0∨ao=some ⟨blk ao,0,none⟩)∧T'.At w' (blk ao) 0∧NsAt w' (T'.refsL (blk ao) 0) ns∧(∀b∈T'.own ao,w.heap.size≤b∧FreeB w' b)∧(T'.own ao).Nodup∧Below w.heap.size w w'
structure ClS(T:Lt)(ns:List Int)(lo g i:Nat)(w:World)(A R:Lt)(n1 n2:List Int)(W:World):Prop where
 strip:A.strip.app R.strip=T.strip
 len:A.len=i
 size:R.size≤T.size
 nseq:n1++n2=ns
 atA:A.At W g 0
 nsA:NsAt W (A.refsL g 0) n1
 atR:R.At W g (i*6)
 nsR:NsAt W (R.refsL g (i*6)) n2
 apart:(g::A.blocks).Nodup
 own:∀b∈g::A.blocks,lo≤b∧FreeB W b
 old:∀b∈R.blocks,b<lo
 small:R.small
 below:Below lo w W
theorem Lt.same_len{A B:Lt}(h:A.strip=B.strip):A.len=B.len:=by rw [← A.strip_len,h,B.strip_len]
theorem QO{T:Lt}{ns:List Int}{lo g i:Nat}{w wr W w5 w6:World}{A:Lt}{n1 n2 m1 m2 m3:List Int}{k n' u:Int}{un:Nm}{ia:Option Addr}{ic:Nat}{its:Lt}{ma:Option Addr}{mc:Nat}{ms:List Mov}{r:Lt}{ma' ao':Option Addr}{mc' co':Nat}
  (h:ClS T ns lo g i w A (.cons k n' un ia ic its ma mc ms r) n1 n2 wr) (hM:n2=u::(m1++(m2++m3))) (g3:wr.cell? ⟨g,i*6+3,none⟩=some (int i64 u)) (k3:NsAt wr (r.refsL g (i*6+6)) m3)
  (hN:lo≤wr.heap.size) (hW:Below wr.heap.size wr W) (h5:RowNew W w5 ma' ms.length∧Be w5 (blk ma') 0 ms∧NsAt w5 (As (blk ma') 0 ms) m1∧Below W.heap.size W w5) (h6:ClP its m2 w5 (.returned (.slice ao' its.len co')) w6) :
  ∃A',ClS T ns lo g (i+1) w A' r (n1++(u::(m1++m2))) m3 ((w6.setCell ⟨g,i*6+5,none⟩ (.slice ma' ms.length mc')).setCell ⟨g,i*6+4,none⟩ (.slice ao' its.len co')):=by
 obtain ⟨p1,p2,p3,p4⟩:=h5;obtain ⟨ao,c,its',e,q1,q2,q3,q4,q5,q6,q7⟩:=h6;injection e with e;injection e with e1 e2 e3;subst e1 e3;have hO:=Lt.same_len q1;have b5:Below wr.heap.size wr w5:=hW.trans (p4.mono hW.size);have b6:Below wr.heap.size wr w6:=b5.trans (q7.mono b5.size);have hP:=(h.own g (by simp)).2;have hg:g<wr.heap.size:=hP.lt;obtain ⟨⟨r0,r1,r2,r4,r5⟩,⟨x1,x2,x3⟩,⟨y1,y2,y3⟩,hr⟩:=h.atR;generalize hC:(w6.setCell ⟨g,i*6+5,none⟩ (.slice ma' ms.length mc')).setCell ⟨g,i*6+4,none⟩ (.slice ao' its.len co')=Wn
 -- what is as it was
 have kg:∀q v,q≠i*6+4→q≠i*6+5→wr.cell? ⟨g,q,none⟩=some v→Wn.cell? ⟨g,q,none⟩=some v:=λq v h4 h5 hc=>by
  rw [← hC];exact Ac (Ac (Ad b6 hc) (Aq (Or.inr λe=>h5 e.symm))) (Aq (Or.inr λe=>h4 e.symm))
 have ko:∀b,b≠g→∀q v,w6.cell? ⟨b,q,none⟩=some v→Wn.cell? ⟨b,q,none⟩=some v:=λb hb q v hc=>by
  rw [← hC];exact Ac (Ac hc (Aq (Or.inl λe=>hb e.symm))) (Aq (Or.inl λe=>hb e.symm))
 have c5:Wn.cell? ⟨g,i*6+5,none⟩=some (.slice ma' ms.length mc'):=by
  rw [← hC];exact Ac (World.cell?_setCell_same _ _ _ (Ad b6 r5)) (Aq (Or.inr (by omega)))
 have c4:Wn.cell? ⟨g,i*6+4,none⟩=some (.slice ao' its.len co'):=by
  rw [← hC];exact World.cell?_setCell_same _ _ _ (Ac (Ad b6 r4) (Aq (Or.inr (by omega))))
 have kf:∀b,FreeB w6 b→FreeB Wn b:=λb hb=>by rw [← hC];exact (hb.set _ _).set _ _
 have kb:Below lo w Wn:=by
  rw [← hC];have hH:=(h.own g (by simp)).1;exact ((h.below.trans (b6.mono hN)).setCell (p:=⟨g,i*6+5,none⟩) hH _).setCell (p:=⟨g,i*6+4,none⟩) hH _
 have hI:g∉A.blocks:=(List.nodup_cons.1 h.apart).1;have hG:∀b∈A.blocks,b<wr.heap.size:=λb hb=>(h.own b (List.mem_cons_of_mem _ hb)).2.lt
 have hA:ms≠[]→wr.heap.size≤blk ma'∧FreeB w5 (blk ma')∧ma'=some ⟨blk ma',off ma',none⟩∧off ma'=0:=λhm=>by
  rcases p1 with p1|⟨p1,p1',p1''⟩
  ·exact absurd (List.length_eq_zero_iff.1 p1) hm
  ·have e0:off ma'=0:=by rw [p1];rfl
   exact ⟨Nat.le_trans hW.size p1',p1'',by rw [e0];exact p1,e0⟩
 have hB:∀b∈its'.own ao',w5.heap.size≤b∧FreeB w6 b:=q5;have hQ:A.At Wn g 0:=h.atA.kept2 (λq v _ hq=>kg q v (by rw [h.len] at hq;omega) (by rw [h.len] at hq;omega)) (λb hb q v hc=>ko b (λe=>hI (e▸hb)) q v (Ad b6 hc))
 have hR:NsAt Wn (A.refsL g 0) n1:=h.nsA.kept λx hx v hc=>by
  rcases Lt.refsL_mem2 hx with ⟨e,_,h2,_⟩|e
  ·rw [e] at hc ⊢
   rw [h.len] at h2;exact kg _ _ (by omega) (by omega) hc
  ·exact ko _ (λe2=>hI (e2▸e)) _ _ (Ad b6 hc)
 have hX:blk ma'≠g∨ms=[]:=by
  by_cases hm:ms=[]
  ·exact Or.inr hm
  ·left;have:=(hA hm).1;omega
 have hD:∀ms0:List Mov,ms0=ms→Be Wn (blk ma') (off ma') ms0∧NsAt Wn (As (blk ma') (off ma') ms0) m1:=λms0 e0=>by
  subst e0;by_cases hm:ms0=[]
  ·subst hm
   cases m1 with
   | nil=>exact ⟨trivial,trivial⟩
   | cons=>exact p3.elim
  ·obtain ⟨z1,z2,z3,z4⟩:=hA hm
   rw [z4]
   exact ⟨Cb p2 λq v _ hc=>ko _ (by omega) _ _ (Ad q7 hc),p3.kept λx hx v hc=>by
    have hb:=(BC hx).1
    exact ko _ (by omega) _ _ (Ad q7 hc)⟩
 obtain ⟨hS,hT⟩:=hD ms rfl;have hF:∀b∈its'.own ao',b≠g:=λb hb=>by have:=(hB b hb).1;have:=b5.size;omega
 have hJ:its'.At Wn (blk ao') (off ao')∧NsAt Wn (its'.refsL (blk ao') (off ao')) m2:=by
  by_cases hz:its'.len=0
  ·have:=Lt.len_zero hz
   subst this
   cases m2 with
   | nil=>exact ⟨trivial,trivial⟩
   | cons=>exact q4.elim
  ·have e0:off ao'=0:=by rw [q2.resolve_left (by omega)];rfl
   have hK:blk ao'∈its'.own ao':=by unfold Lt.own;simp [hz]
   rw [e0];refine ⟨q3.kept (λq v _ hc=>ko _ (hF _ hK) _ _ hc) (λb hb q v hc=>ko _ (hF _ (by unfold Lt.own;simp [hb])) _ _ hc),q4.kept λx hx v hc=>?_⟩;rcases Lt.refsL_mem hx with ⟨e,_⟩|e
   ·exact ko _ (by rw [e];exact hF _ hK) _ _ hc
   ·exact ko _ (hF _ (by unfold Lt.own;simp [e])) _ _ hc
 have hU:r.At Wn g (i*6+6):=hr.kept (λq v hq hc=>kg q v (by omega) (by omega) hc) (λb hb q v hc=>ko b (by have:=h.old b (by simp [Lt.blocks,hb]);have:=(h.own g (by simp)).1;omega) q v (Ad b6 hc))
 have hV:NsAt Wn (r.refsL g (i*6+6)) m3:=k3.kept λx hx v hc=>by
  rcases Lt.refsL_mem hx with ⟨e,h2⟩|e
  ·rw [e] at hc ⊢
   exact kg _ _ (by omega) (by omega) hc
  ·have:=h.old x.b (by simp [Lt.blocks,e])
   exact ko _ (by have:=(h.own g (by simp)).1;omega) _ _ (Ad b6 hc)
 have hE:its.len=its'.len:=hO.symm;refine ⟨A.app (.cons k n' un ao' co' its' ma' mc' ms .nil),?_⟩;have hL:0+6*A.len=i*6:=by rw [h.len];omega
 refine ⟨?_,?_,?_,?_,?_,?_,?_,?_,?_,?_,?_,?_,kb⟩
 ·rw [Lt.app_strip,Its.app_assoc,← h.strip]
  simp [Lt.strip,Its.app,q1]
 ·rw [Lt.app_len,h.len];simp [Lt.len]
 ·have:=h.size;simp only [Lt.size] at this;omega
 ·rw [← h.nseq,hM];simp
 ·rw [Lt.app_at,hL]
  refine ⟨hQ,⟨kg _ _ (by omega) (by omega) r0,kg _ _ (by omega) (by omega) r1,kg _ _ (by omega) (by omega) r2,by rw [← hE];exact c4,c5⟩,⟨?_,x2,hS⟩,⟨?_,by rw [← hE];exact y2,hJ.1⟩,trivial⟩
  ·by_cases hm:ms=[]
   ·exact Or.inl hm
   ·exact Or.inr (hA hm).2.2.1
  ·rcases q2 with q2|q2
   ·left;omega
   ·right
    have e0:off ao'=0:=by rw [q2];rfl
    rw [e0];exact q2
 ·rw [Lt.app_refs,hL]
  refine hR.append ⟨kg _ _ (by simp only;omega) (by simp only;omega) g3,?_⟩;simp only [Lt.refsL,List.append_nil];exact hT.append hJ.2
 ·rw [Nat.add_mul,Nat.one_mul];exact hU
 ·rw [Nat.add_mul,Nat.one_mul];exact hV
 ·rw [Lt.app_blocks]
  simp only [Lt.blocks,List.append_nil];rw [← List.cons_append];refine List.nodup_append.2 ⟨h.apart,List.nodup_append.2 ⟨by split<;>simp,q6,λa ha b hb e=>?_⟩,λa ha b hb e=>?_⟩
  ·split at ha
   ·cases ha
   ·rename_i hm
    rw [List.mem_singleton] at ha;have h1:=(hA hm).2.1.lt;have h2:=(hB b hb).1;omega
  ·have hY:a<wr.heap.size:=by
    rcases List.mem_cons.1 ha with rfl|ha
    ·exact hg
    ·exact hG a ha
   rcases List.mem_append.1 hb with hb|hb
   ·split at hb
    ·cases hb
    ·rename_i hm
     rw [List.mem_singleton] at hb;have h1:=(hA hm).1;omega
   ·have h2:=(hB b hb).1
    have:=b5.size;omega
 ·intro b hb
  rw [Lt.app_blocks,← List.cons_append] at hb;rcases List.mem_append.1 hb with hb|hb
  ·obtain ⟨h1,h2⟩:=h.own b hb
   exact ⟨h1,kf _ (h2.below b6)⟩
  ·simp only [Lt.blocks,List.append_nil] at hb
   rcases List.mem_append.1 hb with hb|hb
   ·split at hb
    ·cases hb
    ·rename_i hm
     rw [List.mem_singleton] at hb;subst hb;obtain ⟨h1,h2,_⟩:=hA hm;exact ⟨by omega,kf _ (h2.below q7)⟩
   ·obtain ⟨h1,h2⟩:=hB b hb
    have:=b5.size;exact ⟨by omega,kf _ h2⟩
 ·intro b hb;exact h.old b (by simp [Lt.blocks,hb])
 ·exact h.small.2.2.2
noncomputable def LC:Code:=(Tryz.f129.body).getD .skip
noncomputable def part48n2:Code:=Ab 2 LC
theorem QN(T:Lt)(ns:List Int)(w:World)(n g c:Nat)(hn:T.len=n)(hN:n≤100000)
  (hI:∀T':Lt,T'.size<T.size→∀(ia:Option Addr) (ic:Nat) (ns:List Int) (W:World),T'.len≤100000→(T'.len=0∨ia=some ⟨blk ia,off ia,none⟩)→T'.At W (blk ia) (off ia)→NsAt W (T'.refsL (blk ia) (off ia)) ns→T'.small→Calls Tryz.prog 129 #[.slice ia T'.len ic] W (ClP T' ns W))
  (W:World) (hS:ClS T ns w.heap.size g 0 w .nil T [] ns W) (e1 e3 e4 e5 e6 e7 e8 e9 ea eb ec ed ee ef eg eh ei ej ek el em en eo ep eq er es et eu ev ew:Value) :
  part48n2.wp Tryz.prog (bodyPost Tryz.prog Tryz.f129 (ClP T ns w)) { tmps:=#[.slice (some ⟨g,0,none⟩) n c,e1,.slice none 0 0,e3,e4,e5,e6,e7,e8,e9,ea,eb,ec,ed,ee,ef,eg,eh,ei,ej,ek,el,em,en,eo,ep,eq,er,es,et,eu,ev,ew],defers:=[] } W:=by
 have HI:=qh hI;clear hI;unfold maxLen at *;unfold part48n2 LC
 conv=>arg 2;whnf
 go_wp2_with fail;go_loopw [8] (λiv wr=>∃(i:Nat) (A R:Lt) (n1 n2:List Int),iv=int i64 i∧i+R.len=n∧Hid (ClS T ns w.heap.size g i w A R n1 n2 wr)) (λiv _=>n+1-(intOf iv).toNat)
 case atStart=>exact ⟨0,.nil,T,[],ns,rfl,by omega,qh hS⟩
 case round =>
  obtain ⟨i,A,R,n1,n2,rfl,hH,hS⟩:=hrel
  cases R with
  | nil =>
   simp only [Lt.len] at hH;obtain rfl:i=n:=by omega
   go_wp2_with fail;go_ret;have h:=hS.out
   have hO:n2=[]:=by
    have:=h.nsR
    cases n2 with
    | nil=>rfl
    | cons=>exact this.elim
   have hJ:=h.nseq;rw [hO,List.append_nil] at hJ;have hF:=h.strip;simp only [Lt.strip] at hF;rw [Its.app_nil] at hF;refine ⟨some ⟨g,0,none⟩,c,A,by rw [hn];rfl,hF,Or.inr rfl,h.atA,by rw [← hJ];exact h.nsA,λb hb=>h.own b ?_,?_,h.below⟩
   ·unfold Lt.own at hb
    split at hb
    ·exact List.mem_cons_of_mem _ (by simpa using hb)
    ·simpa [blk] using hb
   ·unfold Lt.own
    split
    ·simpa using (List.nodup_cons.1 h.apart).2
    ·simpa [blk] using h.apart
  | cons k n' un ia ic its ma mc ms r =>
   simp only [Lt.len] at hH;have hi:(i:Int)<(n:Int):=by omega
   have h:=hS.out;obtain ⟨u,g0,g1,g2,g3,g4,g5,m1,m2,m3,hC,k1,k2,k3⟩:=Lt.At.cells h.atR h.nsR;obtain ⟨_,⟨f1,f2,f3⟩,⟨i1,i2,i3⟩,hr⟩:=h.atR;obtain ⟨s1,s2,s3,s4⟩:=h.small;have hK:its.size<T.size:=by have:=h.size;simp only [Lt.size] at this;omega
   have CM:∀W,Below wr.heap.size wr W→Calls Tryz.prog 151 #[.slice ma ms.length mc] W λe W'=>∃ma' mc',e=.returned (.slice ma' ms.length mc')∧Hid (RowNew W W' ma' ms.length∧Be W' (blk ma') 0 ms∧NsAt W' (As (blk ma') 0 ms) m1∧Below W.heap.size W W')∧Below wr.heap.size wr W':=λW hb =>
    (Ni ma mc ms m1 W s2 f1 (Cf f3 hb) (k1.below hb)).mono λe W' ⟨a,b,h1,h2,h3,h4,h5⟩=>⟨a,b,h1,qh ⟨h2,h3,h4,h5⟩,hb.trans (h5.mono hb.size)⟩
   have CI:∀W,Below wr.heap.size wr W→Calls Tryz.prog 129 #[.slice ia its.len ic] W λe W'=>∃ao co,e=.returned (.slice ao its.len co)∧Hid (ClP its m2 W e W')∧Below wr.heap.size wr W':=λW hb =>
    (HI.out its hK ia ic m2 W s1 i1 (i3.below hb) (k2.below hb) s3).mono λe W' hp=>by
     obtain ⟨a,co,T',h1,h2⟩:=id hp;exact ⟨a,co,h1,qh hp,hb.trans (h2.2.2.2.2.2.2.mono hb.size)⟩
   have hP:=qh CM;have hQ:=qh CI;have fr:=(h.own g (by simp)).2;have q4:=fr.free (i*6+4);have q5:=fr.free (i*6+5);have hZ:=fr.lt;have hR:=qh g4;have hT:=qh g5;have ha:=qh hr;have hU:=qh k3;have hG:=qh hC;have hV:=qh g3;clear CM CI h f1 f2 f3 i1 i3 hr k1 k2 k3 hC s1 s2 s3 s4 hK g0 g1 g2 g3
   have hA:∀W,Below wr.heap.size wr W→W.cell? ⟨g,i*6+4,none⟩=some (.slice ia its.len ic)∧W.cell? ⟨g,i*6+5,none⟩=some (.slice ma ms.length mc):=λW hb=>⟨Ad hb hR.out,Ad hb hT.out⟩
   have hD:=qh hA
   have hB:∀W,Below wr.heap.size wr W→W.frozen? ⟨g,i*6+4,none⟩=false∧W.frozen? ⟨g,i*6+5,none⟩=false:=λW hb=>⟨(fr.below hb).free _,(fr.below hb).free _⟩
   have hL:=qh hB;clear hA hB fr;have hc:Below wr.heap.size wr wr:=Below.refl _ _;go_wp2_with fail
   go_region_with (first
    | (go_at_call 151;refine (hP.out _ (by first|assumption|exact Below.drew (by assumption)|exact Aj (by assumption) _)).mono ?_;rintro e w5 ⟨ma',mc',rfl,hW,hM⟩;have c54:=(hD.out _ hM).1;have c55:=(hD.out _ hM).2)
    | (go_at_call 129;refine (hQ.out _ (by first|assumption|exact Below.drew (by assumption)|exact Aj (by assumption) _)).mono ?_;rintro e w6 ⟨ao',co',rfl,hX,hE⟩;have c64:=(hD.out _ hE).1;have c65:=(hD.out _ hE).2;have f64:=(hL.out _ hE).1;have f65:=(hL.out _ hE).2))
   all_goals
    go_wp2_with fail;go_roundw
    case rel =>
     obtain ⟨A',hY⟩:=QO hS.out hG.out hV.out hU.out hS.out.below.size (by first|assumption|exact Below.drew (by assumption)|exact Aj (by assumption) _) hW.out hX.out;exact ⟨i+1,A',r,_,_,by go_num,by omega,qh hY⟩
    case measure=>simp [intOf];omega
theorem GQ(ia:Option Addr)(ic:Nat)(W:World):Calls Tryz.prog 129 #[.slice ia 0 ic] W (ClP .nil [] W):=by
 have hc:=IQ ia ic .nil [] W (Nat.zero_le _) (Or.inl rfl) trivial trivial;simp only [Lt.len] at hc;have HC:=qh hc;clear hc;go_enter Tryz.func129,Tryz.ntmps129
 go_wp2_with (go_at_call 150;refine HC.out.mono ?_;rintro e w5 ⟨ao,c,rfl,h1,_,_,hb⟩);have H5:=qh hb;clear hb h1;go_loopw [8] (λiv wr=>iv=int i64 0∧wr=w5) (λ_ _=>0)
 case atStart=>exact ⟨rfl,rfl⟩
 case round =>
  obtain ⟨rfl,rfl⟩:=hrel;go_wp2_with fail;go_ret;exact ⟨ao,c,.nil,rfl,rfl,Or.inl rfl,trivial,trivial,λb hb=>by simp [Lt.own,Lt.len,Lt.blocks] at hb,by simp [Lt.own,Lt.len,Lt.blocks],H5.out⟩
theorem Kk(T:Lt)(hI:∀T':Lt,T'.size<T.size→∀(ia:Option Addr) (ic:Nat) (ns:List Int) (W:World),T'.len≤100000→(T'.len=0∨ia=some ⟨blk ia,off ia,none⟩)→T'.At W (blk ia) (off ia)→NsAt W (T'.refsL (blk ia) (off ia)) ns→T'.small→Calls Tryz.prog 129 #[.slice ia T'.len ic] W (ClP T' ns W))
  (ia:Option Addr) (ic:Nat) (ns:List Int) (W:World) (hl:T.len≤100000) (h0:T.len≠0) (hf:ia=some ⟨blk ia,off ia,none⟩) (hA:T.At W (blk ia) (off ia)) (hN:NsAt W (T.refsL (blk ia) (off ia)) ns) (hs:T.small) :
  Calls Tryz.prog 129 #[.slice ia T.len ic] W (ClP T ns W):=by
 have hc:=IQ ia ic T ns W hl (Or.inr hf) hA hN;have HC:=qh hc;have HI:=qh hI;have HA:=qh hA;have HS:=qh hs;clear hc hI hA hN hs hf;generalize hn:T.len=n at *;go_enter Tryz.func129,Tryz.ntmps129;change Code.wp Tryz.prog (Dl 2 LC part48n2) _ _ _
 conv=>arg 2;whnf
 go_wp2_with (go_at_call 150;refine HC.out.mono ?_;rintro e w5 ⟨ao,c,rfl,h1,h2,h3,hb⟩)
 conv=>arg 2;whnf
 go_wp2_with (go_at_call 150;refine HC.out.mono ?_;rintro e w5 ⟨ao,c,rfl,h1,h2,h3,hb⟩);obtain ⟨q1,q2,q3⟩:=h1.resolve_left h0
 have hB:=QN T ns W n (blk ao) c hn hl HI.out w5 ⟨rfl,rfl,qn _,rfl,trivial,trivial,by simpa using h2,by simpa using h3,by simp [Lt.blocks],λb hb=>by
  simp only [Lt.blocks,List.mem_singleton] at hb;subst hb;exact ⟨q2,q3⟩,HA.out.blocks_lt,HS.out,hb⟩
 rw [q1];exact hB _ _ _ _ _ _ _ _ _ _ _ _ _ _ _ _ _ _ _ _ _ _ _ _ _ _ _ _ _ _ _
theorem Lz:∀(s:Nat) (T:Lt),T.size≤s→∀(ia:Option Addr) (ic:Nat) (ns:List Int) (W:World),T.len≤100000→(T.len=0∨ia=some ⟨blk ia,off ia,none⟩)→T.At W (blk ia) (off ia)→NsAt W (T.refsL (blk ia) (off ia)) ns→T.small→Calls Tryz.prog 129 #[.slice ia T.len ic] W (ClP T ns W):=by
 intro s
 induction s with
 | zero =>
  intro T hs ia ic ns W hl hf hA hN hB
  cases T with
  | cons=>simp [Lt.size] at hs
  | nil =>
   cases ns with
   | nil=>exact GQ ia ic W
   | cons=>exact hN.elim
 | succ s ih =>
  intro T hs ia ic ns W hl hf hA hN hB;by_cases h0:T.len=0
  ·obtain rfl:=Lt.len_zero h0
   cases ns with
   | nil=>exact GQ ia ic W
   | cons=>exact hN.elim
  ·exact Kk T (λT' hC=>ih T' (by omega)) ia ic ns W hl h0 (hf.resolve_left h0) hA hN hB
def AZ(ps:List Ph):List Nat:=ps.flatMap λp=>p.its.own p.ia
theorem Lt.own_mem{T:Lt}{ao:Option Addr}{o:Nat}{r:RefL}(h:r∈T.refsL (blk ao) o):r.b∈T.own ao:=by
 have hl:T.len≠0:=λe=>by rw [Lt.len_zero e] at h;cases h
 unfold Lt.own;rcases Lt.refsL_mem h with ⟨e,_⟩|e
 ·simp [hl,e]
 ·simp [e]
theorem Lt.own_sep{T:Lt}{ao:Option Addr}(h:(T.own ao).Nodup)(hl:T.len≠0):T.Sep (blk ao):=by
 unfold Lt.own at h;rw [if_neg hl] at h;exact h
theorem Ph.Its.kept{w w':World}{p:Ph}(h:p.Its w)(hk:∀c∈p.its.own p.ia,∀q v,w.cell? ⟨c,q,none⟩=some v→w'.cell? ⟨c,q,none⟩=some v):p.Its w':=by
 refine ⟨h.1,h.2.1,?_⟩;by_cases hl:p.its.len=0
 ·rw [Lt.len_zero hl];trivial
 ·exact h.2.2.kept (λq v _=>hk _ (by unfold Lt.own;simp [hl]) q v) (λc hc=>hk c (by unfold Lt.own;simp [hc]))
theorem CD{w w':World}{b:Nat}:∀{o:Nat} {ps:List Ph},Bk w b o ps→(∀q v,o≤q→w.cell? ⟨b,q,none⟩=some v→w'.cell? ⟨b,q,none⟩=some v)→(∀c∈AZ ps,∀q v,w.cell? ⟨c,q,none⟩=some v→w'.cell? ⟨c,q,none⟩=some v)→Bk w' b o ps
 | _,[],_,_,_=>trivial
 | o,p::r,⟨⟨h1,h2,h3⟩,h⟩,hk,hc=>⟨⟨hk _ _ (qn _) h1,hk _ _ (by omega) h2,h3.kept λc hA=>hc c (by simp [AZ,hA])⟩,CD h (λq v hq=>hk q v (by omega)) λc hA=>hc c (by unfold AZ at *;simp [hA])⟩
theorem C9{w w':World}{b:Nat}:∀{o:Nat} {ds:List Dan},Bw w b o ds→(∀q v,o≤q→w.cell? ⟨b,q,none⟩=some v→w'.cell? ⟨b,q,none⟩=some v)→Bw w' b o ds
 | _,[],_,_=>trivial
 | o,d::r,⟨⟨h1,h2,h3,h4⟩,h⟩,hk=>⟨⟨hk _ _ (qn _) h1,hk _ _ (by omega) h2,hk _ _ (by omega) h3,hk _ _ (by omega) h4⟩,C9 h λq v hq=>hk q v (by omega)⟩
theorem BK{ps:List Ph}{r:RefL}(h:r∈Ar ps):r.b∈AZ ps:=by
 induction ps with
 | nil=>cases h
 | cons p ps ih =>
  simp only [Ar,List.mem_append] at h;unfold AZ at ih ⊢;rw [List.flatMap_cons,List.mem_append];rcases h with h|h
  ·exact Or.inl (Lt.own_mem h)
  ·exact Or.inr (ih h)
theorem AW{b:Nat}:∀{o:Nat} {ds:List Dan} {r:RefL},r∈Ao b o ds→r.b=b∧o≤r.o∧ds≠[]∧((r.o-o) % 6=0∨(r.o-o) % 6=2)
 | _,[],_,h=>by cases h
 | o,d::ds,r,h=>by
  simp only [Ao,List.mem_cons] at h;rcases h with rfl|rfl|h
  ·exact ⟨rfl,qn _,by simp,Or.inl (by simp)⟩
  ·exact ⟨rfl,by simp only;omega,by simp,Or.inr (by simp only;omega)⟩
  ·obtain ⟨h1,h2,_,h3⟩:=AW h
   exact ⟨h1,by omega,by simp,by omega⟩
theorem PN{w:World}{v:Value}{b:Nat}:∀{o:Nat} {ps:List Ph} {x:RefL},b∉AZ ps→(AZ ps).Nodup→x∈Ar ps→Bk w b o ps→Bk (w.setCell ⟨x.b,x.o+1,none⟩ v) b o ps
 | _,[],_,_,_,h,_=>by cases h
 | o,p::r,x,hb,hn,h,⟨⟨h1,h2,h3⟩,hr⟩=>by
  have hB:=BK h;have hA:b≠x.b:=λe=>hb (e▸hB)
  have mk:∀{c:Nat},c≠x.b→∀q u,w.cell? ⟨c,q,none⟩=some u→(w.setCell ⟨x.b,x.o+1,none⟩ v).cell? ⟨c,q,none⟩=some u:=λhc q u hq=>Ac hq (Aq (Or.inl λe=>hc e.symm))
  unfold AZ at hb hn;rw [List.flatMap_cons] at hb hn;rw [List.mem_append,not_or] at hb;obtain ⟨n1,n2,n3⟩:=List.nodup_append.1 hn;simp only [Ar,List.mem_append] at h;refine ⟨⟨mk hA _ _ h1,mk hA _ _ h2,?_⟩,?_⟩
  ·rcases h with h|h
   ·have hl:p.its.len≠0:=λe=>by unfold Ph.refsL at h;rw [Lt.len_zero e] at h;cases h
    exact ⟨h3.1,h3.2.1,Lt.at_set (Lt.own_sep n1 hl) h h3.2.2⟩
   ·exact h3.kept λc hc q u=>mk (λe=>n3 _ hc _ (BK h) e) q u
  ·rcases h with h|h
   ·exact CD hr (λq u _=>mk hA q u) λc hc q u=>mk (λe=>n3 _ (Lt.own_mem h) _ hc e.symm) q u
   ·exact PN hb.2 n2 h hr
theorem ME{w:World}{v:Value}{b:Nat}:∀{o:Nat} {ds:List Dan} {x:RefL},x∈Ao b o ds→Bw w b o ds→Bw (w.setCell ⟨x.b,x.o+1,none⟩ v) b o ds
 | _,[],_,h,_=>by cases h
 | o,d::ds,x,h,⟨⟨h1,h2,h3,h4⟩,hr⟩=>by
  obtain ⟨e,hA,_,hm⟩:=AW h;refine ⟨⟨Ac h1 (Aq (by omega)),Ac h2 (Aq (by omega)),Ac h3 (Aq (by omega)),Ac h4 (Aq (by omega))⟩,?_⟩;simp only [Ao,List.mem_cons] at h;rcases h with rfl|rfl|h
  ·exact C9 hr λq u hq hc=>Ac hc (Aq (by simp only;omega))
  ·exact C9 hr λq u hq hc=>Ac hc (Aq (by simp only;omega))
  ·exact ME h hr
theorem Fr:∀{ps:List Ph},(AZ ps).Nodup→Cd (Ar ps)
 | [],_=>List.Pairwise.nil
 | p::r,hn=>by
  unfold AZ at hn;rw [List.flatMap_cons] at hn;obtain ⟨n1,n2,n3⟩:=List.nodup_append.1 hn;refine List.pairwise_append.2 ⟨?_,Fr n2,λx hx y hy=>Aq (Or.inl λe=>n3 _ (Lt.own_mem hx) _ (BK hy) e)⟩;unfold Ph.refsL;by_cases hl:p.its.len=0
  ·rw [Lt.len_zero hl];exact List.Pairwise.nil
  ·exact Lt.refsL_apart (Lt.own_sep n1 hl) _
theorem EG(b:Nat):∀(o:Nat) (ds:List Dan),Cd (Ao b o ds)
 | _,[]=>List.Pairwise.nil
 | o,d::ds=>by
  refine List.pairwise_cons.2 ⟨λy hy=>?_,List.pairwise_cons.2 ⟨λy hy=>?_,EG b (o+6) ds⟩⟩
  ·rcases List.mem_cons.1 hy with rfl|hy
   ·exact Aq (by simp only;omega)
   ·have:=AW hy;exact Aq (by simp only;omega)
  ·have:=AW hy;exact Aq (by simp only;omega)
structure Ls.Sep(s:Ls):Prop where
 own:(AZ s.phrases).Nodup
 fa:blk s.fa∉AZ s.phrases
 da:s.dances≠[]→blk s.da∉AZ s.phrases
 fd:s.dances≠[]→s.phrases≠[]→blk s.fa≠blk s.da
theorem Ls.Sep.apart{s:Ls}(h:s.Sep):Cd s.refs :=
 List.pairwise_append.2 ⟨Fr h.own,EG _ _ _,λx hx y hy=>Aq (Or.inl λe=>by
  obtain ⟨e2,_,e3,_⟩:=AW hy
  exact h.da e3 (by rw [← e2,← e];exact BK hx))⟩
theorem Ls.Sep.set{s:Ls}(h:s.Sep){w:World}{v:Value}{x:RefL}(hx:x∈s.refs)(h1:Bk w (blk s.fa) (off s.fa) s.phrases)(h2:Bw w (blk s.da) (off s.da) s.dances) :
  Bk (w.setCell ⟨x.b,x.o+1,none⟩ v) (blk s.fa) (off s.fa) s.phrases∧Bw (w.setCell ⟨x.b,x.o+1,none⟩ v) (blk s.da) (off s.da) s.dances:=by
 rcases List.mem_append.1 hx with hx|hx
 ·refine ⟨PN h.fa h.own hx h1,?_⟩
  by_cases hd:s.dances=[]
  ·rw [hd];trivial
  ·exact C9 h2 λq u _ hc=>Ac hc (Aq (Or.inl λe=>h.da hd (e▸BK hx)))
 ·obtain ⟨e2,_,e3,_⟩:=AW hx
  refine ⟨?_,ME hx h2⟩;by_cases hp:s.phrases=[]
  ·rw [hp];trivial
  ·exact CD h1 (λq u _ hc=>Ac hc (Aq (Or.inl (λe=>h.fd e3 hp (by rw [← e2,e]))))) (λc hc q u hq=>Ac hq (Aq (Or.inl (λe=>h.da e3 (by rw [← e2,e];exact hc)))))
def Oy(w:World)(xs:List RefL):Prop:=∀x∈xs,w.cell? ⟨x.b,x.o,none⟩=some (sv x.nm)
theorem SD{w:World}{b:Nat}:∀{o:Nat} {ms:List Mov},Be w b o ms→Oy w (As b o ms)
 | _,[],_,_,h=>by cases h
 | o,m::r,⟨⟨_,_,_,_,_,_,h6,_⟩,h⟩,x,hx=>by
  rcases List.mem_cons.1 hx with rfl|hx
  ·exact h6
  ·exact SD h x hx
theorem Lt.nm{w:World}:∀{T:Lt} {b o:Nat},T.At w b o→Oy w (T.refsL b o)
 | .nil,_,_,_,_,h=>by cases h
 | .cons k n un ia ic its ma mc ms r,b,o,⟨⟨_,_,h2,_,_⟩,⟨_,_,m3⟩,⟨_,_,i3⟩,hr⟩,x,hx=>by
  simp only [Lt.refsL,List.mem_cons,List.mem_append] at hx;rcases hx with rfl|hx|hx|hx
  ·exact h2
  ·exact SD m3 x hx
  ·exact Lt.nm i3 x hx
  ·exact Lt.nm hr x hx
theorem UL{w:World}{b:Nat}:∀{o:Nat} {ps:List Ph},Bk w b o ps→Oy w (Ar ps)
 | _,[],_,_,h=>by cases h
 | o,p::r,⟨⟨_,_,h3⟩,h⟩,x,hx=>by
  simp only [Ar,List.mem_append] at hx;rcases hx with hx|hx
  ·exact Lt.nm h3.2.2 x hx
  ·exact UL h x hx
theorem Sx{w:World}{b:Nat}:∀{o:Nat} {ds:List Dan},Bw w b o ds→Oy w (Ao b o ds)
 | _,[],_,_,h=>by cases h
 | o,d::r,⟨⟨h1,h2,_⟩,h⟩,x,hx=>by
  simp only [Ao,List.mem_cons] at hx;rcases hx with rfl|rfl|hx
  ·exact h1
  ·exact h2
  ·exact Sx h x hx
theorem Qf{w:World}{s:Ls}(h1:Bk w (blk s.fa) (off s.fa) s.phrases)(h2:Bw w (blk s.da) (off s.da) s.dances):Oy w s.refs:=λx hx=>by
 rcases List.mem_append.1 hx with hx|hx
 ·exact UL h1 x hx
 ·exact Sx h2 x hx
theorem KP(w:World)(b:Nat):∀(A B:List Ph) (o:Nat),Bk w b o (A++B)↔Bk w b o A∧Bk w b (o+2*A.length) B
 | [],B,o=>by simp [Bk]
 | p::A,B,o=>by
  simp only [List.cons_append,Bk,List.length_cons,KP w b A B (o+2),show o+2+2*A.length=o+2*(A.length+1) by omega,and_assoc]
theorem Id:∀A B:List Ph,Ar (A++B)=Ar A++Ar B
 | [],B=>rfl
 | p::A,B=>by simp [Ar,Id A B]
theorem Ic{w w':World}{b:Nat}:∀{o:Nat} {ps:List Ph},Bk w b o ps→(∀q v,o≤q→q<o+2*ps.length→w.cell? ⟨b,q,none⟩=some v→w'.cell? ⟨b,q,none⟩=some v)→(∀c∈AZ ps,∀q v,w.cell? ⟨c,q,none⟩=some v→w'.cell? ⟨c,q,none⟩=some v)→Bk w' b o ps
 | _,[],_,_,_=>trivial
 | o,p::r,⟨⟨h1,h2,h3⟩,h⟩,hk,hc=>by
  simp only [List.length_cons] at hk;exact ⟨⟨hk _ _ (qn _) (by omega) h1,hk _ _ (by omega) (by omega) h2,h3.kept λc hA=>hc c (by simp [AZ,hA])⟩,Ic h (λq v hq hB=>hk q v (by omega) (by omega)) λc hA=>hc c (by unfold AZ at *;simp [hA])⟩
structure PhS(ps:List Ph)(ns:List Int)(lo g i:Nat)(W0:World)(A R:List Ph)(n1 n2:List Int)(W:World):Prop where
 strip:A.map Ph.strip++R.map Ph.strip=ps.map Ph.strip
 len:A.length=i
 nseq:n1++n2=ns
 atA:Bk W g 0 A
 nsA:NsAt W (Ar A) n1
 atR:Bk W g (i*2) R
 nsR:NsAt W (Ar R) n2
 apart:(g::AZ A).Nodup
 own:∀b∈AZ A,W0.heap.size≤b∧FreeB W b
 gf:lo≤g∧FreeB W g
 old:∀b∈AZ R,b<lo
 small:∀p∈R,p.its.len≤100000∧p.its.small
 but:ButOne g W0 W
theorem RA{ps:List Ph}{ns:List Int}{lo g i:Nat}{W0 wr w5 w6:World}{A r:List Ph}{p:Ph}{n1 n2 m1 m2:List Int}{ao':Option Addr}{co':Nat}
  (h:PhS ps ns lo g i W0 A (p::r) n1 n2 wr) (hI:n2=m1++m2) (k2:NsAt wr (Ar r) m2) (hP:g<W0.heap.size)
  (hB:Below wr.heap.size wr w5) (h6:ClP p.its m1 w5 (.returned (.slice ao' p.its.len co')) w6) :
  ∃A',PhS ps ns lo g (i+1) W0 A' r (n1++m1) m2 (w6.setCell ⟨g,i*2+1,none⟩ (.slice ao' p.its.len co')):=by
 obtain ⟨ao,c,its',e,q1,q2,q3,q4,q5,q6,q7⟩:=h6;injection e with e;injection e with e1 e2 e3;subst e1 e3;have hJ:=Lt.same_len q1;have b6:Below wr.heap.size wr w6:=hB.trans (q7.mono hB.size);obtain ⟨⟨r0,r1,x1,x2,x3⟩,hr⟩:=h.atR;have hQ:=h.but.size;generalize hC:w6.setCell ⟨g,i*2+1,none⟩ (.slice ao' p.its.len co')=Wn
 have kg:∀q v,q≠i*2+1→wr.cell? ⟨g,q,none⟩=some v→Wn.cell? ⟨g,q,none⟩=some v:=λq v h4 hc=>by
  rw [← hC];exact Ac (Ad b6 hc) (Aq (Or.inr λe=>h4 e.symm))
 have ko:∀b,b≠g→∀q v,w6.cell? ⟨b,q,none⟩=some v→Wn.cell? ⟨b,q,none⟩=some v:=λb hb q v hc=>by
  rw [← hC];exact Ac hc (Aq (Or.inl λe=>hb e.symm))
 have c1:Wn.cell? ⟨g,i*2+1,none⟩=some (.slice ao' p.its.len co'):=by
  rw [← hC];exact World.cell?_setCell_same _ _ _ (Ad b6 r1)
 have kf:∀b,FreeB w6 b→FreeB Wn b:=λb hb=>by rw [← hC];exact hb.set _ _
 have hF:g∉AZ A:=(List.nodup_cons.1 h.apart).1;have hK:Bk Wn g 0 A:=Ic h.atA (λq v _ hq=>kg q v (by rw [h.len] at hq;omega)) (λb hb q v hc=>ko b (λe=>hF (e▸hb)) q v (Ad b6 hc));have hL:NsAt Wn (Ar A) n1:=h.nsA.kept λx hx v hc=>ko _ (λe=>hF (e▸BK hx)) _ _ (Ad b6 hc)
 have hE:∀b∈its'.own ao',b≠g:=λb hb=>by have:=(q5 b hb).1;have:=hB.size;omega
 have hG:its'.At Wn (blk ao') (off ao')∧NsAt Wn (its'.refsL (blk ao') (off ao')) m1:=by
  by_cases hz:its'.len=0
  ·have:=Lt.len_zero hz
   subst this
   cases m1 with
   | nil=>exact ⟨trivial,trivial⟩
   | cons=>exact q4.elim
  ·have e0:off ao'=0:=by rw [q2.resolve_left (by omega)];rfl
   have hH:blk ao'∈its'.own ao':=by unfold Lt.own;simp [hz]
   rw [e0];refine ⟨q3.kept (λq v _ hc=>ko _ (hE _ hH) _ _ hc) (λb hb q v hc=>ko _ (hE _ (by unfold Lt.own;simp [hb])) _ _ hc),q4.kept λx hx v hc=>?_⟩;rcases Lt.refsL_mem hx with ⟨e,_⟩|e
   ·exact ko _ (by rw [e];exact hE _ hH) _ _ hc
   ·exact ko _ (hE _ (by unfold Lt.own;simp [e])) _ _ hc
 have hA:∀b∈AZ r,b<lo:=λb hb=>h.old b (by unfold AZ at *;simp [hb])
 have hM:Bk Wn g (i*2+2) r:=CD hr (λq v hq hc=>kg q v (by omega) hc) (λb hb q v hc=>ko b (by have:=hA b hb;have:=h.gf.1;omega) q v (Ad b6 hc));have hN:NsAt Wn (Ar r) m2:=k2.kept λx hx v hc=>ko _ (by have:=hA x.b (BK hx);have:=h.gf.1;omega) _ _ (Ad b6 hc)
 have hO:0+2*A.length=i*2:=by rw [h.len];omega
 have hD:p.its.len=its'.len:=hJ.symm;refine ⟨A++[⟨p.name,ao',co',its'⟩],?_,by simp [h.len],by rw [← h.nseq,hI];simp,?_,?_,?_,hN,?_,?_,⟨h.gf.1,kf _ (h.gf.2.below b6)⟩,hA,λq hq=>h.small q (List.mem_cons_of_mem _ hq),?_⟩
 ·rw [← h.strip];simp [Ph.strip,q1]
 ·rw [KP,hO]
  refine ⟨hK,⟨kg _ _ (by omega) r0,by unfold Ph.val;rw [← hD];exact c1,?_,by rw [← hD];exact x2,hG.1⟩,trivial⟩;rcases q2 with q2|q2
  ·left;show its'.len=0;omega
  ·right
   have e0:off ao'=0:=by rw [q2];rfl
   show ao'=some ⟨blk ao',off ao',none⟩
   rw [e0];exact q2
 ·rw [Id]
  exact hL.append (by simpa [Ar,Ph.refsL] using hG.2)
 ·rw [Nat.add_mul,Nat.one_mul];exact hM
 ·have:AZ (A++[⟨p.name,ao',co',its'⟩])=AZ A++its'.own ao':=by unfold AZ;simp
  rw [this,← List.cons_append];refine List.nodup_append.2 ⟨h.apart,q6,λa ha b hb e=>?_⟩;have h2:=(q5 b hb).1;have:=hB.size;rcases List.mem_cons.1 ha with rfl|ha
  ·have:=h.gf.2.lt;omega
  ·have:=(h.own a ha).2.lt;omega
 ·intro b hb
  have:AZ (A++[⟨p.name,ao',co',its'⟩])=AZ A++its'.own ao':=by unfold AZ;simp
  rw [this,List.mem_append] at hb;rcases hb with hb|hb
  ·obtain ⟨h1,h2⟩:=h.own b hb
   exact ⟨h1,kf _ (h2.below b6)⟩
  ·obtain ⟨h1,h2⟩:=q5 b hb
   have:=hB.size;exact ⟨by omega,kf _ h2⟩
 ·rw [← hC]
  exact (h.but.trans (ButOne.of_below b6)).trans (ButOne.setCell (p:=⟨g,i*2+1,none⟩) _)
theorem R1:(Tryz.prog.info? 73).map (λi=>(i.zero,i.size,i.bytes))=some (some (.agg #[.string ⟨#[]⟩,int i64 0,int i64 0,int i64 0]),4,40):=by kernel_rfl
theorem OJ(ao:Option Addr)(n c:Nat)(news:List Value)(w:World)(hl:news.length=n*4)(hn:n≤100000)(hA:ao=none→n=0)(hc:∀a,ao=some a→∀j u,news[j]?=some u→w.cell? (a.add j)=some u)(h1:∀u∈news,u.oneCell'=true) :
  Calls Tryz.prog 27 #[.slice ao n c] w λe w'=>∃v',e=.returned v'∧w'.ownsRow w.heap.size 73 4 v' n news∧Below w.heap.size w w':=by
 have q22:∀(w:World) (a:Option Addr) (n c n' c':Nat),(binOp .eql 23 (.slice a n c) (.slice none n' c')).run Tryz.prog w=.ok (.bool a.isNone) w:=λw a n c n' c'=>Lib.run_eql_slice_nil w _ _ a n c n' c' Tryz.underlying23
 cases ao with
 | none =>
  obtain rfl:=hA rfl;obtain rfl:news=[]:=List.length_eq_zero_iff.1 (by omega);clear hc h1 hA;go_enter Tryz.func27,Tryz.ntmps27;go_wp2_with fail;go_ret;exact ⟨_,rfl,World.ownsRow_nil _ _ _ _,Below.refl _ _⟩
 | some a =>
  have hD:=hc a rfl;obtain ⟨i0,hi,hF,hG,hH⟩:=info_parts R1;have hE:∀o:Obj,∀j u,news[j]?=some u→(w.alloc o).cell? (a.add j)=some u:=λo j u h=>Ad ((Below.refl _ w).alloc (qn _) o) (hD j u h)
  have HC:=qh hE;have H1:=qh h1;clear hc hD hE hA h1;go_enter Tryz.func27,Tryz.ntmps27
  go_wp2_with (at_builtin;refine wpList_append_own _ rfl _ _ 23 rfl w.heap.size 73 i0 (.agg #[.string ⟨#[]⟩,int i64 0,int i64 0,int i64 0]) 4 40 Tryz.underlying23 hi hF hG hH rfl (by decide) _ _ _ rfl (World.ownsRow_made w #[] 0 (qn _) (Nat.zero_le _) (by simp)) a n c news rfl hl (HC.out _) H1.out (by unfold maxLen;omega) (by omega) (by simp) ?_);intro v' w1 hC hB hI;go_wp2_with fail;go_ret;exact ⟨v',rfl,by simpa using hC,((Below.refl _ w).alloc (qn _) _).grown hB (by simp) (by intro k hk;simp [Value.ownBlock] at hk;omega)⟩
theorem R4:(Tryz.prog.info? 76).map (λi=>(i.zero,i.size,i.bytes))=some (some (.agg #[int i64 0,int i64 0,int i64 0]),3,24):=by kernel_rfl
theorem OK(ao:Option Addr)(n c:Nat)(news:List Value)(w:World)(hl:news.length=n*3)(hn:n≤100000)(hA:ao=none→n=0)(hc:∀a,ao=some a→∀j u,news[j]?=some u→w.cell? (a.add j)=some u)(h1:∀u∈news,u.oneCell'=true) :
  Calls Tryz.prog 28 #[.slice ao n c] w λe w'=>∃v',e=.returned v'∧w'.ownsRow w.heap.size 76 3 v' n news∧Below w.heap.size w w':=by
 have q22:∀(w:World) (a:Option Addr) (n c n' c':Nat),(binOp .eql 24 (.slice a n c) (.slice none n' c')).run Tryz.prog w=.ok (.bool a.isNone) w:=λw a n c n' c'=>Lib.run_eql_slice_nil w _ _ a n c n' c' Tryz.underlying24
 cases ao with
 | none =>
  obtain rfl:=hA rfl;obtain rfl:news=[]:=List.length_eq_zero_iff.1 (by omega);clear hc h1 hA;go_enter Tryz.func28,Tryz.ntmps28;go_wp2_with fail;go_ret;exact ⟨_,rfl,World.ownsRow_nil _ _ _ _,Below.refl _ _⟩
 | some a =>
  have hD:=hc a rfl;obtain ⟨i0,hi,hF,hG,hH⟩:=info_parts R4;have hE:∀o:Obj,∀j u,news[j]?=some u→(w.alloc o).cell? (a.add j)=some u:=λo j u h=>Ad ((Below.refl _ w).alloc (qn _) o) (hD j u h)
  have HC:=qh hE;have H1:=qh h1;clear hc hD hE hA h1;go_enter Tryz.func28,Tryz.ntmps28
  go_wp2_with (at_builtin;refine wpList_append_own _ rfl _ _ 24 rfl w.heap.size 76 i0 (.agg #[int i64 0,int i64 0,int i64 0]) 3 24 Tryz.underlying24 hi hF hG hH rfl (by decide) _ _ _ rfl (World.ownsRow_made w #[] 0 (qn _) (Nat.zero_le _) (by simp)) a n c news rfl hl (HC.out _) H1.out (by unfold maxLen;omega) (by omega) (by simp) ?_);intro v' w1 hC hB hI;go_wp2_with fail;go_ret;exact ⟨v',rfl,by simpa using hC,((Below.refl _ w).alloc (qn _) _).grown hB (by simp) (by intro k hk;simp [Value.ownBlock] at hk;omega)⟩
theorem R6:(Tryz.prog.info? 79).map (λi=>(i.zero,i.size,i.bytes))=some (some (.agg #[int i64 0,int i64 0,int i64 0,int i64 0]),4,32):=by kernel_rfl
theorem OL(ao:Option Addr)(n c:Nat)(news:List Value)(w:World)(hl:news.length=n*4)(hn:n≤100000)(hA:ao=none→n=0)(hc:∀a,ao=some a→∀j u,news[j]?=some u→w.cell? (a.add j)=some u)(h1:∀u∈news,u.oneCell'=true) :
  Calls Tryz.prog 29 #[.slice ao n c] w λe w'=>∃v',e=.returned v'∧w'.ownsRow w.heap.size 79 4 v' n news∧Below w.heap.size w w':=by
 have q22:∀(w:World) (a:Option Addr) (n c n' c':Nat),(binOp .eql 25 (.slice a n c) (.slice none n' c')).run Tryz.prog w=.ok (.bool a.isNone) w:=λw a n c n' c'=>Lib.run_eql_slice_nil w _ _ a n c n' c' Tryz.underlying25
 cases ao with
 | none =>
  obtain rfl:=hA rfl;obtain rfl:news=[]:=List.length_eq_zero_iff.1 (by omega);clear hc h1 hA;go_enter Tryz.func29,Tryz.ntmps29;go_wp2_with fail;go_ret;exact ⟨_,rfl,World.ownsRow_nil _ _ _ _,Below.refl _ _⟩
 | some a =>
  have hD:=hc a rfl;obtain ⟨i0,hi,hF,hG,hH⟩:=info_parts R6;have hE:∀o:Obj,∀j u,news[j]?=some u→(w.alloc o).cell? (a.add j)=some u:=λo j u h=>Ad ((Below.refl _ w).alloc (qn _) o) (hD j u h)
  have HC:=qh hE;have H1:=qh h1;clear hc hD hE hA h1;go_enter Tryz.func29,Tryz.ntmps29
  go_wp2_with (at_builtin;refine wpList_append_own _ rfl _ _ 25 rfl w.heap.size 79 i0 (.agg #[int i64 0,int i64 0,int i64 0,int i64 0]) 4 32 Tryz.underlying25 hi hF hG hH rfl (by decide) _ _ _ rfl (World.ownsRow_made w #[] 0 (qn _) (Nat.zero_le _) (by simp)) a n c news rfl hl (HC.out _) H1.out (by unfold maxLen;omega) (by omega) (by simp) ?_);intro v' w1 hC hB hI;go_wp2_with fail;go_ret;exact ⟨v',rfl,by simpa using hC,((Below.refl _ w).alloc (qn _) _).grown hB (by simp) (by intro k hk;simp [Value.ownBlock] at hk;omega)⟩
theorem R8:(Tryz.prog.info? 82).map (λi=>(i.zero,i.size,i.bytes))=some (some (.agg #[int i64 0,int i64 0,int i64 0,int i64 0]),4,32):=by kernel_rfl
theorem OM(ao:Option Addr)(n c:Nat)(news:List Value)(w:World)(hl:news.length=n*4)(hn:n≤100000)(hA:ao=none→n=0)(hc:∀a,ao=some a→∀j u,news[j]?=some u→w.cell? (a.add j)=some u)(h1:∀u∈news,u.oneCell'=true) :
  Calls Tryz.prog 30 #[.slice ao n c] w λe w'=>∃v',e=.returned v'∧w'.ownsRow w.heap.size 82 4 v' n news∧Below w.heap.size w w':=by
 have q22:∀(w:World) (a:Option Addr) (n c n' c':Nat),(binOp .eql 26 (.slice a n c) (.slice none n' c')).run Tryz.prog w=.ok (.bool a.isNone) w:=λw a n c n' c'=>Lib.run_eql_slice_nil w _ _ a n c n' c' Tryz.underlying26
 cases ao with
 | none =>
  obtain rfl:=hA rfl;obtain rfl:news=[]:=List.length_eq_zero_iff.1 (by omega);clear hc h1 hA;go_enter Tryz.func30,Tryz.ntmps30;go_wp2_with fail;go_ret;exact ⟨_,rfl,World.ownsRow_nil _ _ _ _,Below.refl _ _⟩
 | some a =>
  have hD:=hc a rfl;obtain ⟨i0,hi,hF,hG,hH⟩:=info_parts R8;have hE:∀o:Obj,∀j u,news[j]?=some u→(w.alloc o).cell? (a.add j)=some u:=λo j u h=>Ad ((Below.refl _ w).alloc (qn _) o) (hD j u h)
  have HC:=qh hE;have H1:=qh h1;clear hc hD hE hA h1;go_enter Tryz.func30,Tryz.ntmps30
  go_wp2_with (at_builtin;refine wpList_append_own _ rfl _ _ 26 rfl w.heap.size 82 i0 (.agg #[int i64 0,int i64 0,int i64 0,int i64 0]) 4 32 Tryz.underlying26 hi hF hG hH rfl (by decide) _ _ _ rfl (World.ownsRow_made w #[] 0 (qn _) (Nat.zero_le _) (by simp)) a n c news rfl hl (HC.out _) H1.out (by unfold maxLen;omega) (by omega) (by simp) ?_);intro v' w1 hC hB hI;go_wp2_with fail;go_ret;exact ⟨v',rfl,by simpa using hC,((Below.refl _ w).alloc (qn _) _).grown hB (by simp) (by intro k hk;simp [Value.ownBlock] at hk;omega)⟩
end
end Go.Proofs.YtbkemlgfdklpfaaGreatDoor
