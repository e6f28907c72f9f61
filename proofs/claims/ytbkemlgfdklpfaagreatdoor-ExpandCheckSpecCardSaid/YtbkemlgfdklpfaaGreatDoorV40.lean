/- Contracts and plain laws on the way to the statement: part 40. -/
import Derived.Test.YtbkemlgfdklpfaaGreatDoorV39
import Derived.Test.YtbkemlgfdklpfaaGreatDoorV36
import Derived.OrdersHeld
import Derived.OwnWalkIn
import Derived.Deep.MidRow
import Derived.Test.YtbkemlgfdklpfaaGreatDoorV4
set_option autoImplicit true
set_option relaxedAutoImplicit true
set_option linter.unusedVariables false
set_option linter.unusedSimpArgs false
set_option maxRecDepth 100000
set_option maxHeartbeats 16000000
namespace Go.Proofs.YtbkemlgfdklpfaaGreatDoor
open Go.Value (int)
open Go.IntKind (i64)
section
open Go Go.RowKit Go.Shelf
def _root_.Go.Code.blkOf(id:Nat):Code→Option Code
 | .block i c=>if i=id then some c else c.blkOf id
 | .rangeFunc _ _ _ b=>b.blkOf id
 | .seq x y=>(x.blkOf id).orElse λ_=>y.blkOf id
 | .cond _ x y=>(x.blkOf id).orElse λ_=>y.blkOf id
 | .loop c=>c.blkOf id
 | _=>none
noncomputable def code10:Code:=(Tryz.f11.body).getD .skip
noncomputable def body10:Code:=((code10.blkOf 5).getD .skip)
def wkZ:Array Value:=#[int i64 0,int i64 0,int i64 0,int i64 0,int i64 0,.slice none 0 0,int i64 0,.slice none 0 0,.slice none 0 0,.slice none 0 0,.slice none 0 0]
structure RdW(V0:World)(Ds:List Nat)(WB EB DB AB:Nat)(wc dc:Array Value)(acc:List Sgn)(tt:Int)(W:World):Prop where
 os:W.os=V0.os
 tape:W.tape=V0.tape
 output:W.output=V0.output
 size:V0.heap.size≤W.heap.size
 block:∀b,b<V0.heap.size→b≠WB→b≠EB→W.heap[b]?=V0.heap[b]?
 row:∃v,W.heap[WB]?=some (.cells (wc.push v) 39 (0,0))∧W.ownsRow V0.heap.size 54 14 v acc.length (acc.flatMap Av)
 eb:W.heap[EB]?=some (.cells #[int i64 0] 40 (0,0))
 db:W.heap[DB]?=some (.cells dc 64 (0,0))
 ab:W.heap[AB]?=some (.cells #[int i64 tt] 3 (0,0))
 few:acc.length≤4096
 marks:∀D∈Ds,W.heap[D]?=some (.deferred (some []))
structure FullW(V0:World)(Ds:List Nat)(WB EB:Nat)(W:World):Prop where
 os:W.os=V0.os
 tape:W.tape=V0.tape
 output:W.output=V0.output
 size:V0.heap.size≤W.heap.size
 block:∀b,b<V0.heap.size→b≠WB→b≠EB→W.heap[b]?=V0.heap[b]?
 wb:W.heap[WB]?=some (.cells wkZ 39 (0,0))
 eb:W.heap[EB]?=some (.cells #[int i64 2] 40 (0,0))
 marks:∀D∈Ds,W.heap[D]?=some (.deferred (some []))
theorem RdW.below{V0:World}{Ds:List Nat}{WB EB DB AB:Nat}{wc dc:Array Value}{acc:List Sgn}{tt:Int}{W W':World}(h:RdW V0 Ds WB EB DB AB wc dc acc tt W)(hb:Below W.heap.size W W'):RdW V0 Ds WB EB DB AB wc dc acc tt W':=by
 obtain ⟨v,hv,ho⟩:=h.row;have hs:=h.size;exact ⟨hb.os.trans h.os,hb.tape.trans h.tape,hb.output.trans h.output,Nat.le_trans h.size hb.size,λb h1 h2 h3=>(hb.block b (by omega)).trans (h.block b h1 h2 h3),⟨v,Ah hb hv,B9 ho hb⟩,Ah hb h.eb,Ah hb h.db,Ah hb h.ab,h.few,λD hD=>Ah hb (h.marks D hD)⟩
theorem CF{W:World}{WB:Nat}{wc:Array Value}{v:Value}{t:TypeId}(hz:wc.size=10)(h:W.heap[WB]?=some (.cells (wc.push v) t (0,0))):W.cell? ⟨WB,10,none⟩=some v:=Aa h 10 (by rw [← hz];simp)
theorem JN{W:World}{B e k n:Nat}{v:Value}{xs:List Value}(h:W.ownsRow B e k v n xs){b:Nat}(hb:v.ownBlock=some b):F9 e W b∧B≤b:=by
 rcases h.2 with ⟨rfl,_⟩|⟨g,c,cur,rfl,h1,h2,_⟩
 ·cases hb
 ·cases hb;exact ⟨⟨cur,_,h2⟩,h1⟩
theorem Qg{W:World}{WB:Nat}{wc:Array Value}{v v':Value}{t:TypeId}(hz:wc.size=10)(h:W.heap[WB]?=some (.cells (wc.push v) t (0,0))):(W.setCell ⟨WB,10,none⟩ v').heap[WB]?=some (.cells (wc.push v') t (0,0)):=by
 simp only [World.setCell,Array.getElem?_modify,h,if_true,Option.map_some]
 have e:(wc.push v).setIfInBounds 10 v'=wc.push v':=Array.ext' (by
  have hl:wc.toList.length=10:=by simpa using hz
  simp [List.set_append,hl])
 simp [e]
theorem RdW.step{V0:World}{Ds:List Nat}{WB EB DB AB B:Nat}{wc dc:Array Value}{acc:List Sgn}{tt:Int}{W W5 W6:World}{v v':Value}{s:Sgn}(h:RdW V0 Ds WB EB DB AB wc dc acc tt W)(hz:wc.size=10)(hW:WB<B)(hv:W.heap[WB]?=some (.cells (wc.push v) 39 (0,0)))(hA:W.ownsRow V0.heap.size 54 14 v acc.length (acc.flatMap Av))
  (hb:Below W.heap.size W W5) (hg:W5.grownBy W6 v.ownBlock) (ho:W6.ownsRow V0.heap.size 54 14 v' (acc.length+1) (acc.flatMap Av++Av s)) (hl:acc.length<4096) :
  RdW V0 Ds WB EB DB AB wc dc (acc++[s]) tt (W6.setCell ⟨WB,10,none⟩ v')∧Rnd B W (W6.setCell ⟨WB,10,none⟩ v'):=by
 have hJ:=h.size
 have kp:∀(b:Nat) (cs:Array Value) (ty:TypeId),W.heap[b]?=some (.cells cs ty (0,0))→ty≠54→W6.heap[b]?=some (.cells cs ty (0,0)):=λb cs ty e ne=>by
  have hC:=(qs.1 e).1;refine (hg.block b (by have:=hb.size;omega) (λe2=>?_)).trans ((hb.block b hC).trans e);exact FJ e ne (JN hA e2.symm).1
 have st:=Qg (v':=v') hz (kp _ _ _ hv (by decide));have oth:∀b,b≠WB→(W6.setCell ⟨WB,10,none⟩ v').heap[b]?=W6.heap[b]?:=λb hG=>Below.heap_setCell _ _ _ _ hG
 have hH:W.heap.size≤W6.heap.size:=Nat.le_trans hb.size hg.size;have hE:(W6.setCell ⟨WB,10,none⟩ v').heap.size=W6.heap.size:=by simp [World.setCell]
 have ob:∀b,b<W.heap.size→¬F9 54 W b→W6.heap[b]?=W.heap[b]?:=λb hC hn=>(hg.block b (by have:=hb.size;omega) λe2=>hn (JN hA e2.symm).1).trans (hb.block b hC)
 refine ⟨⟨hg.os.trans (hb.os.trans h.os),hg.tape.trans (hb.tape.trans h.tape),hg.output.trans (hb.output.trans h.output),by rw [hE];omega,λb h1 h2 h3=>?_,⟨v',st,?_⟩,?_,?_,?_,by simp;omega,λD hD=>?_⟩,⟨by rw [hE];exact hH,λb h1 h2 h3=>?_⟩⟩
 ·rw [oth b h2,← h.block b h1 h2 h3]
  refine (hg.block b (by have:=hb.size;omega) (λe2=>?_)).trans (hb.block b (by omega));have:=(JN hA e2.symm).2;omega
 ·rw [List.flatMap_append,List.length_append]
  simp only [List.flatMap_cons,List.flatMap_nil,List.append_nil,List.length_cons,List.length_nil];refine ⟨ho.1,?_⟩;rcases ho.2 with hn|⟨g,cap,cur,hI,hB,hF,rest⟩
  ·exact Or.inl hn
  ·refine Or.inr ⟨g,cap,cur,hI,hB,?_,rest⟩
   rw [oth g (B6 hF (kp _ _ _ hv (by decide)) (by decide))];exact hF
 ·rw [oth EB (B6 h.eb hv (by decide))];exact kp _ _ _ h.eb (by decide)
 ·rw [oth DB (B6 h.db hv (by decide))];exact kp _ _ _ h.db (by decide)
 ·rw [oth AB (B6 h.ab hv (by decide))];exact kp _ _ _ h.ab (by decide)
 ·have hm:=h.marks D hD
  have nr:¬F9 54 W D:=λ⟨c,f,e⟩=>by rw [hm] at e;cases e
  rw [oth D (λe=>by rw [e] at hm;rw [hv] at hm;cases hm),ob D (qs.1 hm).1 nr];exact hm
 ·rw [oth b (by omega)];exact ob b h2 h3
end
section
open Go Go.RowKit Go.Shelf Go.Deep
theorem R9:(Tryz.prog.info? 54).map (λi=>(i.zero,i.size,i.bytes))=some (some (.agg #[int i64 0,int i64 0,int i64 0,int i64 0,int i64 0,int i64 0,int i64 0,int i64 0,int i64 0,int i64 0,int i64 0,int i64 0,int i64 0,int i64 0]),14,112):=by kernel_rfl
theorem Pn:∃i,Tryz.prog.info? 54=some i∧i.zero=some (.agg #[int i64 0,int i64 0,int i64 0,int i64 0,int i64 0,int i64 0,int i64 0,int i64 0,int i64 0,int i64 0,int i64 0,int i64 0,int i64 0,int i64 0])∧i.size=14∧i.bytes=112:=by
 have h:=R9
 cases hi:Tryz.prog.info? 54 with
 | none=>rw [hi] at h;cases h
 | some i =>
  rw [hi] at h;simp only [Option.map_some,Option.some.injEq,Prod.mk.injEq] at h;exact ⟨i,rfl,h.1,h.2.1,h.2.2⟩
theorem N1(s:Sgn):∀v∈Av s,v.oneCell'=true:=by
 intro v hv;simp only [Av,List.mem_cons,List.not_mem_nil,or_false] at hv;rcases hv with rfl|rfl|rfl|rfl|rfl|rfl|rfl|rfl|rfl|rfl|rfl|rfl|rfl|rfl<;>rfl
theorem Qh(W:World)(cs:Array Value)(h1:cs.all (·.oneCell')=true):∃W',W.alloc (.cells cs 54)=W'∧Below W.heap.size W W'∧W'.heap.size=W.heap.size+1∧((∀ad,(some ⟨W.heap.size,0,none⟩:Option Addr)=some ad→∀j u,cs.toList[j]?=some u→W'.cell? (ad.add j)=some u)∧∀u∈cs.toList,u.oneCell'=true):=by
 obtain ⟨W',e,g,b,z⟩:=Af W cs 54;refine ⟨W',e,b,z,λad e2 j u hu=>?_,λu hu=>?_⟩
 ·cases e2
  rw [Bc];exact Aa g _ (by rw [← Array.getElem?_toList];simpa using hu)
 ·rw [Array.all_eq_true'] at h1
  exact h1 u (by simpa using hu)
theorem LT{W W':World}{B e k n b:Nat}{v:Value}{xs:List Value}{cs:Array Value}{ty:TypeId}(ho:W.ownsRow B e k v n xs)(hg:W.grownBy W' v.ownBlock)(h:W.heap[b]?=some (.cells cs ty (0,0)))(ne:ty≠e):W'.heap[b]?=some (.cells cs ty (0,0)) :=
 (hg.block b (qs.1 h).1 λe2=>FJ h ne (JN ho e2.symm).1).trans h
theorem CH{W:World}{g i:Nat}{cs cs':Array Value}{t:TypeId}{u v:Value}(h:W.heap[g]?=some (.cells cs t (0,0)))(hi:cs[i]?=some u)(hc:cs.setIfInBounds i v=cs') :
  ∃W',W.setCell ⟨g,i,none⟩ v=W'∧W'.heap[g]?=some (.cells cs' t (0,0))∧(∀q,q≠g→W'.heap[q]?=W.heap[q]?)∧(∀n,n≤g→Below n W W')∧W.cell? ⟨g,i,none⟩=some u∧W.frozen? ⟨g,i,none⟩=false :=
 ⟨_,rfl,by rw [← hc];exact heap_setCell_same W g i _ _ _ h,λq hq=>Below.heap_setCell _ _ _ _ hq,λn hn=>(Below.refl n W).setCell (p:=⟨g,i,none⟩) hn v,Aa h i hi,by simp [World.frozen?,h]⟩
def KX(m:Mov)(nn:Int)(mir:Bool)(rl tt:Int):Sgn:={ Oi m nn mir with role:=rl,bar:=tt }
theorem RdW.full{V0:World}{Ds:List Nat}{WB EB DB AB B:Nat}{wc dc:Array Value}{acc:List Sgn}{tt:Int}{W W1:World}(h:RdW V0 Ds WB EB DB AB wc dc acc tt W)(hW:WB<B)(hE:EB<B)(hb:Below W.heap.size W W1)(hC:WB<V0.heap.size)(hF:EB<V0.heap.size) :
  FullW V0 Ds WB EB ((W1.setRow WB wkZ).setCell ⟨EB,0,none⟩ (int i64 2))∧Rnd B W ((W1.setRow WB wkZ).setCell ⟨EB,0,none⟩ (int i64 2)):=by
 have h1:=h.below hb;obtain ⟨v,hv,_⟩:=h1.row;obtain ⟨W2,e2,g2,_⟩:=AO (cs:=wkZ) hv (Below.refl 0 W1) (Nat.zero_le _);have o2:=λb hB=>setRow_other W1 WB b wkZ hB
 rw [e2] at o2 ⊢;have ne:=B6 h1.eb hv (by decide);obtain ⟨W3,e3,g3,o3,_,s3⟩:=Bp ((o2 EB ne).trans h1.eb) (int i64 2);rw [e3];have s2:W2.heap.size=W1.heap.size:=by rw [← e2];simp [World.setRow]
 have hs:=h1.size;have q1:W3.os=W1.os∧W3.tape=W1.tape∧W3.output=W1.output:=by rw [← e3,← e2];exact ⟨rfl,rfl,rfl⟩
 refine ⟨⟨q1.1.trans h1.os,q1.2.1.trans h1.tape,q1.2.2.trans h1.output,by omega,λb hA h2 h3=>?_,(o3 WB (Ne.symm ne)).trans g2,g3,λD hD=>?_⟩,⟨by have:=hb.size;omega,λb hA h2 h3=>?_⟩⟩
 ·rw [o3 b h3,o2 b h2];exact h1.block b hA h2 h3
 ·have hm:=h1.marks D hD
  rw [o3 D (λe=>by rw [e] at hm;rw [h1.eb] at hm;cases hm),o2 D (λe=>by rw [e] at hm;rw [hv] at hm;cases hm)];exact hm
 ·rw [o3 b (by omega),o2 b (by omega)];exact hb.block b h2
theorem BM{F:Fence}{n:Nat}{P:Program}{ops:Array Oper}{rest:List Oper}{o:Oper}{a:Act}{w:World}{Q:Exit→Act→World→Prop}(hB:o.guard=none)(ty:TypeId)(x y:Operand)(ho:o.op=.store ty x y)
  (g:Nat) (cells:Array Value) (hx:a.eval x=.pointer (some ⟨g,0,none⟩)) (hy:a.eval y=.agg cells) (t:TypeId) (old:Array Value) (hg:w.heap[g]?=some (.cells old t (0,0))) (hi:(P.info? ty).map (·.size)=some cells.size)
  (hA:old.size=cells.size) (h1:cells.all (·.oneCell')=true) (h:wpListIn F n P ops Q rest (a.put o.dst undef) (w.setRow g cells)):wpListIn F n P ops Q (o::rest) a w:=by
 refine wpListIn_plain hB λK hC=>?_
 unfold Oper.wpIn;refine ⟨by simp [Oper.about,ho],?_⟩;rw [Oper.semAt_plain F _ _ (by rw [ho];intro c hD;cases hD)];unfold execOp;simp only [ho,hx,hy,Instr.storeAt,Instr.sureAddr,Sem.run_bind,Sem.run_pure,Result.andThen_ok,run_storeVar_row w g t ty old cells hg hi hA h1];exact hC _ _ h
section
attribute [local go_sem] Oper.semAt_some
theorem RK(l n:Nat)(V0 W:World)(Ds:List Nat)(WB EB DB AB XB B fb fo nm mc jj:Nat)(wc dc:Array Value)(rl tt nn:Int)(acc:List Sgn)(mir:Bool)(m:Mov)(rest:List Mov)(hz:wc.size=10)(hd:dc[1]?=some (int i64 rl))(hS:RdW V0 Ds WB EB DB AB wc dc acc tt W)
  (hX:W.heap[XB]?=some (.cells #[.slice (some ⟨fb,fo,none⟩) nm mc,.bool mir] 90 (0,0))) (hm:Be W fb (fo+jj*12) (m::rest)) (HE:W.cell? ⟨fb,fo+jj*12+7,none⟩=some (int i64 nn)) (hj:jj<nm) (HV:nm≤1000000) (HF:-1000000≤nn∧nn≤1000000) (hx:-1000000≤m.size∧m.size≤1000000)
  (HG:WB<V0.heap.size) (HH:EB<V0.heap.size) (hB:V0.heap.size≤B) (Q:Exit→Act→World→Prop) (HI:¬LetsOut Q) (hO:∀(ch:List PanicEntry) (a:Act) (d:Option Go.Tmp) (v:Value) (W':World),Q (.panic ch) (a.put d v) W'→Q (.panic ch) a W')
  (hy:∀(W':World) (g10 g11 g82 g83 g84 g85 g86 g87 g88 g89 g90 g91 g92 g93 g94 g95 g96 g97 g98 g99 g100 g101 g102 g103 g104:Value),RdW V0 Ds WB EB DB AB wc dc (acc++[KX m nn mir rl tt]) tt W'→Rnd B W W'→Q .normal { tmps:=#[e0,e1,.pointer (some ⟨WB,0,none⟩),.pointer (some ⟨EB,0,none⟩),e4,e5,.pointer (some ⟨DB,0,none⟩),.pointer (some ⟨AB,0,none⟩),.pointer (some ⟨XB,0,none⟩),e9,g10,g11,ed,ee,ef,eg,eh,ei,ej,ek,el,em,en,eo,ep,eq,er,es,et,eu,ev,ew,ez,eA,eB,eC,eD,eE,eF,eG,eH,eI,eJ,eK,eL,eM,eN,eO,eP,eQ,eR,eS,eT,eU,eV,eW,eX,eY,eZ,aa,ac,ae,af,ag,ah,ai,aj,ak,al,am,an,ap,aq,ar,au,av,aw,ax,.slice (some ⟨fb,fo,none⟩) nm mc,ay,int i64 (jj:Nat),az,g82,g83,g84,g85,g86,g87,g88,g89,g90,g91,g92,g93,g94,g95,g96,g97,g98,g99,g100,g101,g102,g103,g104,aX,aY,aZ,ba,bb,bc,bd,be,bf,bg,bh,bi,bj,bk,bl,bm,bn,bo,bp,bq,br],defers:=[] } W')
  (h0:∀(a:Act) (W':World),FullW V0 Ds WB EB W'→Rnd B W W'→acc.length=4096→Q .ret a W') :
  body10.wpIn (Fence.wide.inRound l) n Tryz.prog Q { tmps:=#[e0,e1,.pointer (some ⟨WB,0,none⟩),.pointer (some ⟨EB,0,none⟩),e4,e5,.pointer (some ⟨DB,0,none⟩),.pointer (some ⟨AB,0,none⟩),.pointer (some ⟨XB,0,none⟩),e9,ea,ec,ed,ee,ef,eg,eh,ei,ej,ek,el,em,en,eo,ep,eq,er,es,et,eu,ev,ew,ez,eA,eB,eC,eD,eE,eF,eG,eH,eI,eJ,eK,eL,eM,eN,eO,eP,eQ,eR,eS,eT,eU,eV,eW,eX,eY,eZ,aa,ac,ae,af,ag,ah,ai,aj,ak,al,am,an,ap,aq,ar,au,av,aw,ax,.slice (some ⟨fb,fo,none⟩) nm mc,ay,int i64 (jj:Nat),az,aA,aB,aC,aD,aE,aF,aG,aH,aI,aJ,aK,aL,aM,aN,aO,aP,aQ,aR,aS,aT,aU,aV,aW,aX,aY,aZ,ba,bb,bc,bd,be,bf,bg,bh,bi,bj,bk,bl,bm,bn,bo,bp,bq,br],defers:=[] } W:=by
 obtain ⟨v,hv,hP⟩:=hS.row;obtain ⟨ao,c,rfl⟩:=AS hP;have hg:=hS.few;obtain ⟨⟨c0,c1,c2,c3,c4,c5,c6,c8,c9,ca,cb⟩,_⟩:=hm;have hG:=qh hy;have hh:=qh h0;have ha:=qh hS;clear hy h0
 cases m with
 | mk mk kd sd dr lv sz wn fa fb2 ta tb =>
 simp only at c0 c1 c2 c3 c4 c5 c6 c8 c9 ca cb hx hG;obtain ⟨W1,HW,g1,b1,z1⟩:=Af W #[int i64 mk,int i64 kd,int i64 sd,int i64 dr,int i64 lv,int i64 sz,sv wn,int i64 nn,int i64 fa,int i64 fb2,int i64 ta,int i64 tb] 92;obtain ⟨MB,hD⟩:∃MB,W.heap.size=MB:=⟨_,rfl⟩;have h1:=hS.below b1;have hc:=Ah b1 hv;have k1:W1.cell? ⟨WB,10,none⟩=some (.slice ao acc.length c):=CF hz hc;have x1:W1.cell? ⟨XB,1,none⟩=some (.bool mir):=Aa (Ah b1 hX) 1 rfl;have ka:W1.frozen? ⟨WB,10,none⟩=false:=by simp [World.frozen?,hc]
 have m0:W1.cell? ⟨MB,0,none⟩=some (int i64 mk):=Aa (hD▸g1) 0 rfl;have m1:W1.cell? ⟨MB,1,none⟩=some (int i64 kd):=Aa (hD▸g1) 1 rfl;have m2:W1.cell? ⟨MB,2,none⟩=some (int i64 sd):=Aa (hD▸g1) 2 rfl;have m3:W1.cell? ⟨MB,3,none⟩=some (int i64 dr):=Aa (hD▸g1) 3 rfl;have m4:W1.cell? ⟨MB,4,none⟩=some (int i64 lv):=Aa (hD▸g1) 4 rfl;have m5:W1.cell? ⟨MB,5,none⟩=some (int i64 sz):=Aa (hD▸g1) 5 rfl;have m6:W1.cell? ⟨MB,6,none⟩=some (sv wn):=Aa (hD▸g1) 6 rfl;have m7:W1.cell? ⟨MB,7,none⟩=some (int i64 nn):=Aa (hD▸g1) 7 rfl;have m8:W1.cell? ⟨MB,8,none⟩=some (int i64 fa):=Aa (hD▸g1) 8 rfl;have m9:W1.cell? ⟨MB,9,none⟩=some (int i64 fb2):=Aa (hD▸g1) 9 rfl;have ma:W1.cell? ⟨MB,10,none⟩=some (int i64 ta):=Aa (hD▸g1) 10 rfl;have mb:W1.cell? ⟨MB,11,none⟩=some (int i64 tb):=Aa (hD▸g1) 11 rfl;have hi:=qh b1;have hl:=qh hc;have hn:=qh h1;have hQ:=qh hP;have h2:=qh hv;have HJ:=qh hd;have he:=qh hz;have HL:=qh g1;obtain ⟨k,hk⟩:∃k,acc.length=k:=⟨_,rfl⟩;have hR:=qh hk;rw [hk] at k1 hg;rw [hD] at HL;clear hS h1 hv hc b1 z1 hd hX hk g1 hz;have HX:jj*12≤12000000:=by omega
 have HY:((jj:Nat):Int)<(nm:Int):=by omega
 unfold body10 code10
 conv=>arg 4;whnf
 by_cases hf:k=4096
 ·subst hf
  have eb1:W1.heap[EB]?=some (.cells #[int i64 0] 40 (0,0)):=hn.out.eb;have hF:=ha.out.full (B:=B) (by omega) (by omega) hi.out HG HH;have HM:=he.out;have ex:(W1.setRow WB wkZ).cell? ⟨EB,0,none⟩=some (int i64 0):=Aa ((setRow_other W1 WB EB wkZ (B6 eb1 hl.out (by decide))).trans eb1) 0 rfl;have ey:(W1.setRow WB wkZ).frozen? ⟨EB,0,none⟩=false:=by simp [World.frozen?,(setRow_other W1 WB EB wkZ (B6 eb1 hl.out (by decide))).trans eb1]
  have HN:=qh ex;have HO:=qh ey;have h3:=qh hF;clear ex ey hF eb1
  gi_wp2_with (refine BM rfl 39 _ _ rfl WB wkZ rfl rfl 39 _ hl.out (by kernel_rfl) (by simp [HM];rfl) (by kernel_rfl) ?_;clear k1;have ex:=HN.out;have ey:=HO.out);exact hh.out _ _ h3.out.1 h3.out.2 hR.out
 have HZ:(k==4096)=false:=by simpa using hf
 have Ha:¬((k:Nat):Int)=4096:=by omega
 obtain ⟨⟨s0,s1,s2,s3,s4,s5,s6,s7,s8,s9,s10,s11,s12,s13⟩,ho⟩:∃q:Sgn,Oi ⟨mk,kd,sd,dr,lv,sz,wn,fa,fb2,ta,tb⟩ nn mir=q:=⟨_,rfl⟩;have CS:=Qj ⟨mk,kd,sd,dr,lv,sz,wn,fa,fb2,ta,tb⟩ nn mir W1 HF hx;have h4:KX ⟨mk,kd,sd,dr,lv,sz,wn,fa,fb2,ta,tb⟩ nn mir rl tt=⟨s0,rl,tt,s3,s4,s5,s6,s7,s8,s9,s10,s11,s12,s13⟩:=by unfold KX;rw [ho]
 rw [ho] at CS;unfold S5 Av at CS;simp only at CS;rw [h4] at hG;clear ho h4;have HP:=qh CS;clear CS;gi_wp2_with fail;clear c0 c1 c2 c3 c4 c5 c6 c8 c9 ca cb HE;refine ⟨trivial,nofun,?_⟩;refine (CallsIn.inRound l (callsIn_wide.2 HP.out)).mono ?_;rintro e w5 ⟨rfl,hp⟩;obtain ⟨W3,Hb,g3,b3,z3⟩:=Af w5 #[int i64 s0,int i64 s1,int i64 s2,int i64 s3,int i64 s4,int i64 s5,int i64 s6,int i64 s7,int i64 s8,int i64 s9,int i64 s10,int i64 s11,int i64 s12,int i64 s13] 54;obtain ⟨RB,HQ⟩:∃RB,w5.heap.size=RB:=⟨_,rfl⟩;have hE:=qh (Ag hi.out (Ag hp b3)).drew;have hH:=ha.out.below hE.out;have hC:Hid (W3.drew.heap[DB]?=some (.cells dc 64 (0,0))∧W3.drew.heap[AB]?=some (.cells #[int i64 tt] 3 (0,0))):=qh ⟨hH.db,hH.ab⟩;have hT:Hid (W.heap.size≤RB):=qh (by have:=hp.size;have:=hi.out.size;omega);rw [HQ] at g3;have hA:Hid (W3.drew.heap[RB]?=some (.cells #[int i64 s0,int i64 s1,int i64 s2,int i64 s3,int i64 s4,int i64 s5,int i64 s6,int i64 s7,int i64 s8,int i64 s9,int i64 s10,int i64 s11,int i64 s12,int i64 s13] 54 (0,0))):=qh g3;clear hp b3 z3 k1 x1 ka m0 m1 m2 m3 m4 m5 m6 m7 m8 m9 ma mb hH g3;gi_wp2_with fail;refine Dv (S:=λV=>V.heap[DB]?=some (.cells dc 64 (0,0))∧V.heap[AB]?=some (.cells #[int i64 tt] 3 (0,0))) (by kernel_rfl) (by kernel_rfl) (λ⟨a,w,h⟩=>HI ⟨a,w,h⟩) ?_;change wpAnyH _ _ _ _ _ _ _ _ W3.drew;refine tkS (i:=0) (oi:=_) (v:=.pointer (some ⟨DB,0,none⟩)) rfl (by kernel_rfl) (λ_ _ _ h=>hO _ _ _ _ _ h) (λV hb=>by go_simp) hC.out ?_
 try simp only [Act.put,qz]
 refine tkS (i:=1) (oi:=_) (v:=.pointer (some ⟨DB,1,none⟩)) rfl (by kernel_rfl) (λ_ _ _ h=>hO _ _ _ _ _ h) (λV hb=>by go_simp) hC.out ?_
 try simp only [Act.put,qz]
 refine tkS (i:=2) (oi:=_) (v:=int i64 rl) rfl (by kernel_rfl) (λ_ _ _ h=>hO _ _ _ _ _ h) (λV hb=>by have q0:=Aa hb.1 1 HJ.out;go_simp) hC.out ?_
 try simp only [Act.put,qz]
 refine tkS (i:=3) (oi:=_) (v:=int i64 tt) rfl (by kernel_rfl) (λ_ _ _ h=>hO _ _ _ _ _ h) (λV hb=>by have q0:=Aa hb.2 0 rfl;go_simp) hC.out ?_
 try simp only [Act.put,qz]
 refine tkS (i:=4) (oi:=_) (v:=.pointer (some ⟨RB,1,none⟩)) rfl (by kernel_rfl) (λ_ _ _ h=>hO _ _ _ _ _ h) (λV hb=>by go_simp) hC.out ?_
 try simp only [Act.put,qz]
 refine tr 5 _ (by kernel_rfl) rfl λK1 hK=>?_
 have HK:=qh hK;clear hK;obtain ⟨W4,hU,hV,hJ,hW,hq,hr⟩:=CH (i:=1) (v:=int i64 rl) (cs':=#[int i64 s0,int i64 rl,int i64 s2,int i64 s3,int i64 s4,int i64 s5,int i64 s6,int i64 s7,int i64 s8,int i64 s9,int i64 s10,int i64 s11,int i64 s12,int i64 s13]) hA.out rfl rfl;go_simp
 try rw [hU]
 have hY:W4.heap[DB]?=some (.cells dc 64 (0,0))∧W4.heap[AB]?=some (.cells #[int i64 tt] 3 (0,0)):=⟨(hJ DB (B6 hC.out.1 hA.out (by decide))).trans hC.out.1,(hJ AB (B6 hC.out.2 hA.out (by decide))).trans hC.out.2⟩;have hA:=qh hV;have hE:=qh (hE.out.trans (hW _ hT.out));clear hU hJ hW hq hr hV hC;have hC:=qh hY;clear hY;refine HK.out _ _ hC.out (λ_=>?_);clear HK K1
 try simp only [Act.put,qz]
 refine tkS (i:=6) (oi:=_) (v:=.pointer (some ⟨RB,2,none⟩)) rfl (by kernel_rfl) (λ_ _ _ h=>hO _ _ _ _ _ h) (λV hb=>by go_simp) hC.out ?_
 try simp only [Act.put,qz]
 refine tr 7 _ (by kernel_rfl) rfl λK1 hK=>?_
 have HK:=qh hK;clear hK;obtain ⟨W5,hU,hV,hJ,hW,hq,hr⟩:=CH (i:=2) (v:=int i64 tt) (cs':=#[int i64 s0,int i64 rl,int i64 tt,int i64 s3,int i64 s4,int i64 s5,int i64 s6,int i64 s7,int i64 s8,int i64 s9,int i64 s10,int i64 s11,int i64 s12,int i64 s13]) hA.out rfl rfl;go_simp
 try rw [hU]
 have hY:W5.heap[DB]?=some (.cells dc 64 (0,0))∧W5.heap[AB]?=some (.cells #[int i64 tt] 3 (0,0)):=⟨(hJ DB (B6 hC.out.1 hA.out (by decide))).trans hC.out.1,(hJ AB (B6 hC.out.2 hA.out (by decide))).trans hC.out.2⟩;have hA:=qh hV;have hE:=qh (hE.out.trans (hW _ hT.out));clear hU hJ hW hq hr hV hC;have hC:=qh hY;clear hY;refine HK.out _ _ hC.out (λ_=>?_);clear HK K1
 try simp only [Act.put,qz]
 refine wpAnyH_done (by kernel_rfl) ?_ _;have h5:=B9 hQ.out hE.out;have hs:=Ah hE.out h2.out;have k5:W5.cell? ⟨WB,10,none⟩=some (.slice ao k c):=by rw [← hR.out];exact CF he.out hs
 obtain ⟨W6,h6,b56,z6,h7⟩:=Qh W5 #[int i64 s0,int i64 rl,int i64 tt,int i64 s3,int i64 s4,int i64 s5,int i64 s6,int i64 s7,int i64 s8,int i64 s9,int i64 s10,int i64 s11,int i64 s12,int i64 s13] (all_oneCell_toArray (N1 ⟨s0,rl,tt,s3,s4,s5,s6,s7,s8,s9,s10,s11,s12,s13⟩));have hZ:=B9 h5 b56;rw [hR.out] at hZ;have HR:=qh (Ah b56 hs);have hZ:=qh hZ;have h8:=qh (Ag hE.out b56);obtain ⟨i0,h9,HA,HB,HC⟩:=Pn;have hI:=qh (And.intro h9 (And.intro HA (And.intro HB HC)));have HD:=qh h7;have ht:=qh h6;have y0:W5.cell? ⟨RB,0,none⟩=some (int i64 s0):=Aa hA.out 0 rfl;have y1:W5.cell? ⟨RB,1,none⟩=some (int i64 rl):=Aa hA.out 1 rfl;have y2:W5.cell? ⟨RB,2,none⟩=some (int i64 tt):=Aa hA.out 2 rfl;have y3:W5.cell? ⟨RB,3,none⟩=some (int i64 s3):=Aa hA.out 3 rfl;have y4:W5.cell? ⟨RB,4,none⟩=some (int i64 s4):=Aa hA.out 4 rfl;have y5:W5.cell? ⟨RB,5,none⟩=some (int i64 s5):=Aa hA.out 5 rfl;have y6:W5.cell? ⟨RB,6,none⟩=some (int i64 s6):=Aa hA.out 6 rfl;have y7:W5.cell? ⟨RB,7,none⟩=some (int i64 s7):=Aa hA.out 7 rfl;have y8:W5.cell? ⟨RB,8,none⟩=some (int i64 s8):=Aa hA.out 8 rfl;have y9:W5.cell? ⟨RB,9,none⟩=some (int i64 s9):=Aa hA.out 9 rfl;have ya:W5.cell? ⟨RB,10,none⟩=some (int i64 s10):=Aa hA.out 10 rfl;have yb:W5.cell? ⟨RB,11,none⟩=some (int i64 s11):=Aa hA.out 11 rfl;have yc:W5.cell? ⟨RB,12,none⟩=some (int i64 s12):=Aa hA.out 12 rfl;have yd:W5.cell? ⟨RB,13,none⟩=some (int i64 s13):=Aa hA.out 13 rfl;clear h5 hs b56 h9 HA HB HC h7 h6 hC;have HS:=ha.out.size
 gi_wp2_with (gi_at_builtin;generalize HT:@wpListIn=gg);subst HT;rw [ht.out];refine wpListIn_append_own _ rfl _ _ 37 rfl V0.heap.size 54 i0 _ 14 112 Tryz.underlying37 hI.out.1 hI.out.2.1 hI.out.2.2.1 hI.out.2.2.2 rfl (by decide) _ k (acc.flatMap Av) rfl hZ.out ⟨W5.heap.size,0,none⟩ 1 1 [int i64 s0,int i64 rl,int i64 tt,int i64 s3,int i64 s4,int i64 s5,int i64 s6,int i64 s7,int i64 s8,int i64 s9,int i64 s10,int i64 s11,int i64 s12,int i64 s13] rfl rfl (HD.out.1 _ rfl) HD.out.2 (by unfold maxLen;omega) (by omega) (by have:=h8.out.size;omega) ?_;intro v9 w10 hL hM HU;obtain ⟨ao9,c9,rfl⟩:=AS hL;have hN:=LT hZ.out hM HR.out (by decide);have k10:w10.cell? ⟨WB,10,none⟩=some (.slice ao k c):=by rw [← hR.out];exact CF he.out hN
 have f10:w10.frozen? ⟨WB,10,none⟩=false:=by simp [World.frozen?,hN]
 have hu:=qh hL;have hw:=qh hM;clear hL hM HU hN k5;gi_wp2_with fail;have hk:=hR.out;subst hk;obtain ⟨q1,q2⟩:=ha.out.step (B:=B) (s:=⟨s0,rl,tt,s3,s4,s5,s6,s7,s8,s9,s10,s11,s12,s13⟩) he.out (by omega) h2.out hQ.out h8.out hw.out hu.out (by omega);exact hG.out _ _ _ _ _ _ _ _ _ _ _ _ _ _ _ _ _ _ _ _ _ _ _ _ _ _ q1 q2
end
end
section
open Go Go.RowKit Go.Shelf Go.Deep
noncomputable def round10:Code:=(code10.blkOf 3).getD .skip
def sgs(g:Nm→Int)(mir:Bool)(rl tt:Int)(ms:List Mov):List Sgn:=ms.map λm=>KX m (g m.wn) mir rl tt
def MvN(g:Nm→Int)(w:World)(b o:Nat)(ms:List Mov):Prop:=∀(j:Nat) (m:Mov),ms[j]?=some m→∃n,w.cell? ⟨b,o+j*12+7,none⟩=some (int i64 n)∧Ln m n=Ln m (g m.wn)∧(-1000000≤n∧n≤1000000)∧(-1000000≤m.size∧m.size≤1000000)
theorem IZ{w:World}{b:Nat}:∀{o:Nat} {xs ys:List Mov},Be w b o (xs++ys)→Be w b o xs∧Be w b (o+12*xs.length) ys
 | o,[],ys,h=>⟨trivial,by simpa using h⟩
 | o,x::xs,ys,⟨h,k⟩=>by
  obtain ⟨h1,h2⟩:=IZ k;refine ⟨⟨h,h1⟩,?_⟩;have e:o+12*(x::xs).length=o+12+12*xs.length:=by simp only [List.length_cons];omega
  rw [e];exact h2
theorem TP{g:Nm→Int}{m:Mov}{n:Int}(h:Ln m n=Ln m (g m.wn))(mir:Bool)(rl tt:Int):KX m n mir rl tt=KX m (g m.wn) mir rl tt:=by
 unfold KX Oi;rw [h]
theorem RdW.low{w0 V0:World}{Ds:List Nat}{WB EB DB AB:Nat}{wc dc:Array Value}{acc:List Sgn}{tt:Int}{W:World}(h:RdW V0 Ds WB EB DB AB wc dc acc tt W)(hb:Below w0.heap.size w0 V0)(hW:w0.heap.size≤WB)(hE:w0.heap.size≤EB):Below w0.heap.size w0 W :=
 ⟨h.os.trans hb.os,h.tape.trans hb.tape,h.output.trans hb.output,Nat.le_trans hb.size h.size,λb hA=>(h.block b (by have:=hb.size;omega) (by omega) (by omega)).trans (hb.block b hA)⟩
theorem RdW.bump{V0:World}{Ds:List Nat}{WB EB DB AB B:Nat}{wc dc:Array Value}{acc:List Sgn}{tt:Int}{W:World}(h:RdW V0 Ds WB EB DB AB wc dc acc tt W)(hA:AB<B)(hV:V0.heap.size≤AB)(t2:Int) :
  RdW V0 Ds WB EB DB AB wc dc acc t2 (W.setCell ⟨AB,0,none⟩ (int i64 t2))∧Rnd B W (W.setCell ⟨AB,0,none⟩ (int i64 t2)):=by
 obtain ⟨v,hv,ho⟩:=h.row;obtain ⟨W2,e2,g2,o2,_,s2⟩:=Bp h.ab (int i64 t2);have q1:W2.os=W.os∧W2.tape=W.tape∧W2.output=W.output:=by rw [← e2];exact ⟨rfl,rfl,rfl⟩
 rw [e2];refine ⟨⟨q1.1.trans h.os,q1.2.1.trans h.tape,q1.2.2.trans h.output,by rw [s2];exact h.size,λb h1 h2 h3=>(o2 b (by omega)).trans (h.block b h1 h2 h3),⟨v,(o2 WB (B6 hv h.ab (by decide))).trans hv,ho.1,?_⟩,(o2 EB (B6 h.eb h.ab (by decide))).trans h.eb,(o2 DB (B6 h.db h.ab (by decide))).trans h.db,g2,h.few,λD hD=>?_⟩,⟨by omega,λb h1 h2 h3=>o2 b (by omega)⟩⟩
 ·rcases ho.2 with hn|⟨g,cap,cur,hE,hB,hC,rest⟩
  ·exact Or.inl hn
  ·exact Or.inr ⟨g,cap,cur,hE,hB,(o2 g (B6 hC h.ab (by decide))).trans hC,rest⟩
 ·have hm:=h.marks D hD
  rw [o2 D (λe=>by rw [e] at hm;rw [h.ab] at hm;cases hm)];exact hm
section
attribute [local go_sem] Oper.semAt_some
theorem Qb(g:Nm→Int)(l n:Nat)(w0 V0 W:World)(Ds:List Nat)(WB EB DB AB XB B mc:Nat)(ao:Option Addr)(wc dc:Array Value)(rl tt:Int)(acc:List Sgn)(mir:Bool)(ms:List Mov)(hz:wc.size=10)(hd:dc[1]?=some (int i64 rl))(hS:RdW V0 Ds WB EB DB AB wc dc acc tt W)
  (hX:W.heap[XB]?=some (.cells #[.slice ao ms.length mc,.bool mir] 90 (0,0))) (hf:ms=[]∨ao=some ⟨blk ao,off ao,none⟩) (hm:Be w0 (blk ao) (off ao) ms) (hN:MvN g w0 (blk ao) (off ao) ms) (hb:ms.length≤1000000) (HA:-1000000000≤tt∧tt≤1000000000)
  (h0:Below w0.heap.size w0 V0) (hc:w0.heap.size≤WB) (he:w0.heap.size≤EB) (hg:WB<V0.heap.size) (hh:EB<V0.heap.size) (hi:V0.heap.size≤AB) (hj:AB<B) (hk:B≤XB) (Q:Exit→Act→World→Prop) (hl:¬LetsOut Q) (hn:∀(ch:List PanicEntry) (a:Act) (d:Option Go.Tmp) (v:Value) (W':World),Q (.panic ch) (a.put d v) W'→Q (.panic ch) a W') (e0 e1 e4 e5 e9 ea eb ec ed ee ef eg eh ei ej ek el em en eo ep eq er es et eu ev ew ex ey ez eA eB eC eD eE eF eG eH eI eJ eK eL eM eN eO eP eQ eR eS eT eU eV eW eX eY eZ aa ac ae af ag ah ai aj ak al am an ap aq ar au av aw ax ay az aA aB aC aD aE aF aG aH aI aJ aK aL aM aN aO aP aQ aR aS aT aU aV aW aX aY aZ ba bb bc bd be bf bg bh bi bj bk bl bm bn bo bp bq:Value)
  (hL:∀(a:Act) (W':World),RdW V0 Ds WB EB DB AB wc dc (acc++sgs g mir rl tt ms) (tt+1) W'→Rnd B W W'→Q .normal a W')
  (hO:∀(a:Act) (W':World),FullW V0 Ds WB EB W'→Rnd B W W'→4096<(acc++sgs g mir rl tt ms).length→Q .ret a W') :
  round10.wpIn (Fence.wide.inRound l) n Tryz.prog Q { tmps:=#[e0,e1,.pointer (some ⟨WB,0,none⟩),.pointer (some ⟨EB,0,none⟩),e4,e5,.pointer (some ⟨DB,0,none⟩),.pointer (some ⟨AB,0,none⟩),.pointer (some ⟨XB,0,none⟩),e9,ea,eb,ec,ed,ee,ef,eg,eh,ei,ej,ek,el,em,en,eo,ep,eq,er,es,et,eu,ev,ew,ex,ey,ez,eA,eB,eC,eD,eE,eF,eG,eH,eI,eJ,eK,eL,eM,eN,eO,eP,eQ,eR,eS,eT,eU,eV,eW,eX,eY,eZ,aa,ac,ae,af,ag,ah,ai,aj,ak,al,am,an,ap,aq,ar,au,av,aw,ax,ay,az,aA,aB,aC,aD,aE,aF,aG,aH,aI,aJ,aK,aL,aM,aN,aO,aP,aQ,aR,aS,aT,aU,aV,aW,aX,aY,aZ,ba,bb,bc,bd,be,bf,bg,bh,bi,bj,bk,bl,bm,bn,bo,bp,bq],defers:=[] } W:=by
 have x0:W.cell? ⟨XB,0,none⟩=some (.slice ao ms.length mc):=Aa hX 0 rfl
 have cA:∀(k:List Sgn) (W':World),RdW V0 Ds WB EB DB AB wc dc k tt W'→W'.cell? ⟨AB,0,none⟩=some (int i64 tt)∧W'.frozen? ⟨AB,0,none⟩=false:=λk W' h=>⟨Aa h.ab 0 rfl,by simp [World.frozen?,h.ab]⟩
 obtain ⟨fb,hP⟩:∃b,blk ao=b:=⟨_,rfl⟩;obtain ⟨fo,hQ⟩:∃b,off ao=b:=⟨_,rfl⟩;rw [hP,hQ] at hm hN hf;have ho:=qh hS;have hT:=qh hX;have hp:=qh hm;have hq:=qh hN;have hE:=qh hL;have hF:=qh hO;have hr:=qh hf;have hs:=qh h0;have ht:=qh hd;have hu:=qh cA;have hv:=qh hz;have hw:Hid (XB<W.heap.size):=qh (qs.1 hX).1;clear hS hX hm hN hL hO hf h0 hd cA hP hQ hz;generalize hU:ms.length=nm at *;have hx:=qh hU;clear hU;unfold round10 code10
 conv=>arg 4;whnf
 gi_wp2_with fail;gi_loopw [80] (λjv wq=>∃(j:Nat) (M pre:List Mov),jv=int i64 j∧j+M.length=nm∧Hid (ms=pre++M∧pre.length=j)∧Hid (RdW V0 Ds WB EB DB AB wc dc (acc++sgs g mir rl tt pre) tt wq)∧Hid (Rnd B W wq)) (λjv _=>nm+1-(intOf jv).toNat)
 case atStart=>exact ⟨0,ms,[],rfl,by rw [hx.out];omega,qh ⟨rfl,rfl⟩,qh (by simpa [sgs] using ho.out),qh (Rnd.refl B W)⟩
 case round =>
  obtain ⟨j,M,pre,rfl,hV,hM,hR,hK⟩:=hrel
  cases M with
  | nil =>
   simp only [List.length_nil] at hV;obtain rfl:j=nm:=by omega
   obtain ⟨cA,fA⟩:=hu.out _ _ hR.out;have hG:=qh (hR.out.bump (B:=B) hj hi (tt+1));have hH:pre=ms:=by rw [hM.out.1];simp
   gi_wp2_with fail;rw [hH] at hG;exact hE.out _ _ hG.out.1 (hK.out.trans hG.out.2)
  | cons m M =>
   simp only [List.length_cons] at hV;have hB:=hR.out.low hs.out hc he;obtain ⟨hM1,hM2⟩:=hM.out;have hD:ms[j]?=some m:=by rw [hM1,← hM2];simp
   obtain rfl:ao=some ⟨fb,fo,none⟩:=hr.out.resolve_left (λe=>by rw [e] at hD;simp at hD);obtain ⟨nn,n1,n2,n3,n4⟩:=hq.out j m hD
   have hW:Be wr fb (fo+j*12) (m::M):=by
    have h1:=Cf hp.out hB;rw [hM1] at h1;have h2:=(IZ h1).2;rw [hM2] at h2;simpa [Nat.mul_comm] using h2
   have hY:=(hK.out.block XB hk hw.out (FJ hT.out (by decide))).trans hT.out;have hZ:=Ad hB n1;have HB:((j:Nat):Int)<(nm:Int):=by omega
   have hy:=qh hW;have h4:=qh hZ;have h5:=qh hY;have h6:=qh n3;have h7:=qh n4;have h8:=qh n2;have ha:=qh hM1;have h9:=qh hM2;clear hB hM1 hM2 hD n1 n2 n3 n4 hW hY hZ;apply wpIn_seq_k;intro K1 hA;have hC:=qh hA;clear hA;gi_wp2_with fail;refine hC.out _ _ ?_;clear hC K1;apply wpIn_seq_k;intro K1 hA;have hC:=qh hA;clear hA;gi_wp2_with fail;refine hC.out _ _ ?_;clear hC K1;apply wpIn_seq_k;intro K1 hA;refine wpIn_block ?_;refine RK l _ V0 wr Ds WB EB DB AB XB B fb fo nm mc j wc dc rl tt nn (acc++sgs g mir rl tt pre) mir m M hv.out ht.out hR.out h5.out hy.out h4.out (by omega) hb h6.out h7.out hg hh (by omega) _ ?_ ?_ ?_ ?_
   ·exact λ⟨a,w,h⟩=>hl ⟨a,w,h⟩
   ·exact λch a d v W' h=>hn ch a d v W' h
   ·intro W2 g10 g11 g82 g83 g84 g85 g86 g87 g88 g89 g90 g91 g92 g93 g94 g95 g96 g97 g98 g99 g100 g101 g102 g103 g104 hI hJ
    have hI:=qh hI;have hJ:=qh hJ;refine hA _ _ ?_;clear hA K1;gi_wp2_with fail;refine ⟨⟨j+1,M,pre++[m],by go_num,by omega,qh ⟨by rw [ha.out];simp,by simp [h9.out]⟩,qh ?_,qh (hK.out.trans hJ.out)⟩,by simp [intOf];omega⟩;have:=hI.out;rw [TP h8.out] at this;simpa [sgs] using this
   ·exact λa W2 h1 h2 h3=>hF.out a W2 h1 (hK.out.trans h2) (by rw [ha.out];simp [sgs] at h3 ⊢;omega)
end
end
section
open Go Go.RowKit Go.Shelf Go.Deep
noncomputable def range10:Code:=(code10.blkOf 2).getD .skip
def Bg(g:Nm→Int)(rl:Int):Int→List BarR→List Sgn
 | _,[]=>[]
 | tt,x::r=>sgs g x.mir rl tt x.ms++Bg g rl (tt+1) r
theorem G5(g:Nm→Int)(rl:Int)(x:BarR):∀(tt:Int) (l:List BarR),Bg g rl tt (l++[x])=Bg g rl tt l++sgs g x.mir rl (tt+l.length) x.ms
 | tt,[]=>by simp [Bg]
 | tt,y::l=>by
  have e:tt+1+(l.length:Int)=tt+((y::l).length:Int):=by simp only [List.length_cons];omega
  rw [List.cons_append,Bg,G5 g rl x (tt+1) l,e,Bg,List.append_assoc]
theorem GO(g:Nm→Int)(rl:Int)(b:List BarR):∀(tt:Int) (a:List BarR),Bg g rl tt (a++b)=Bg g rl tt a++Bg g rl (tt+a.length) b
 | tt,[]=>by simp [Bg]
 | tt,y::l=>by
  have e:tt+1+(l.length:Int)=tt+((y::l).length:Int):=by simp only [List.length_cons];omega
  rw [List.cons_append,Bg,GO g rl b (tt+1) l,e,Bg,List.append_assoc]
def GK(g:Nm→Int)(w0:World)(x:BarR):Prop:=(x.ms=[]∨x.ma=some ⟨blk x.ma,off x.ma,none⟩)∧Be w0 (blk x.ma) (off x.ma) x.ms∧MvN g w0 (blk x.ma) (off x.ma) x.ms∧x.ms.length≤1000000
theorem RdW.mvr{V0:World}{Ds:List Nat}{WB EB DB AB B:Nat}{wc dc:Array Value}{acc:List Sgn}{tt:Int}{W W':World}(h:RdW V0 Ds WB EB DB AB wc dc acc tt W)(hb:MvR B W W')(hV:V0.heap.size≤B)(hA:AB<B)(hD:∀D∈Ds,D<B):RdW V0 Ds WB EB DB AB wc dc acc tt W':=by
 obtain ⟨v,hv,ho⟩:=h.row;have kp:∀(b:Nat) (cs:Array Value) (ty:TypeId),W.heap[b]?=some (.cells cs ty (0,0))→ty≠3→W'.heap[b]?=some (.cells cs ty (0,0)):=λb cs ty e ne=>(hb.block b (qs.1 e).1 (Or.inr ⟨cs,ty,_,e,ne⟩)).trans e
 have hs:=h.size;refine ⟨hb.os.trans h.os,hb.tape.trans h.tape,hb.output.trans h.output,Nat.le_trans h.size hb.size,λb h1 h2 h3=>(hb.block b (by omega) (Or.inl (by omega))).trans (h.block b h1 h2 h3),⟨v,kp _ _ _ hv (by decide),ho.1,?_⟩,kp _ _ _ h.eb (by decide),kp _ _ _ h.db (by decide),(hb.block AB (qs.1 h.ab).1 (Or.inl hA)).trans h.ab,h.few,λD hm=>(hb.block D (qs.1 (h.marks D hm)).1 (Or.inl (hD D hm))).trans (h.marks D hm)⟩
 ·rcases ho.2 with hn|⟨g,cap,cur,hC,hB,hE,rest⟩
  ·exact Or.inl hn
  ·exact Or.inr ⟨g,cap,cur,hC,hB,kp _ _ _ hE (by decide),rest⟩
theorem FullW.mvr{V0:World}{Ds:List Nat}{WB EB B:Nat}{W W':World}(h:FullW V0 Ds WB EB W)(hb:MvR B W W')(hV:V0.heap.size≤B)(hD:∀D∈Ds,D<B):FullW V0 Ds WB EB W':=by
 have kp:∀(b:Nat) (cs:Array Value) (ty:TypeId),W.heap[b]?=some (.cells cs ty (0,0))→ty≠3→W'.heap[b]?=some (.cells cs ty (0,0)):=λb cs ty e ne=>(hb.block b (qs.1 e).1 (Or.inr ⟨cs,ty,_,e,ne⟩)).trans e
 have hs:=h.size;exact ⟨hb.os.trans h.os,hb.tape.trans h.tape,hb.output.trans h.output,Nat.le_trans h.size hb.size,λb h1 h2 h3=>(hb.block b (by omega) (Or.inl (by omega))).trans (h.block b h1 h2 h3),kp _ _ _ h.wb (by decide),kp _ _ _ h.eb (by decide),λD hm=>(hb.block D (qs.1 (h.marks D hm)).1 (Or.inl (hD D hm))).trans (h.marks D hm)⟩
section
attribute [local go_sem] Oper.semAt_some
theorem Qa(g:Nm→Int)(s:Ls)(f:Nm→Int)(len:Int→Int)(rk:Nat→Nat)(Bf:Int→List BarR)(w0 V0 W:World)(Ds:List Nat)(WB EB DB AB B G TB SB PB MB ph:Nat)(p:Ph)(wc dc:Array Value)(rl tt:Int)(acc:List Sgn)(mir:Bool)
  (hA:s.At w0) (hU:NumAt f w0 (Ar s.phrases)) (hP:BarOk s f rk len Bf) (hp:s.phrases[ph]?=some p) (hQ:B≤TB∧B≤SB∧B≤G) (hB:B≤W.heap.size) (hR:w0.heap.size≤B) (hw:BarsAt w0 s len G TB SB PB MB ph mir W)
  (hL:∀x∈AA mir (Bf ph),GK g w0 x) (hF:(AA mir (Bf ph)).length≤100000000) (hh:0≤tt∧tt≤100000000)
  (hz:wc.size=10) (hd:dc[1]?=some (int i64 rl)) (hS:RdW V0 Ds WB EB DB AB wc dc acc tt W)
  (h0:Below w0.heap.size w0 V0) (hG:w0.heap.size≤WB) (hH:w0.heap.size≤EB) (hT:WB<V0.heap.size) (hV:EB<V0.heap.size) (hW:V0.heap.size≤AB) (hJ:AB<B) (hM:∀D∈Ds,D<B) (Q:Exit→Act→World→Prop) (dfs:List Deferred)
  (hY:∀(D:Nat) (W':World),W.heap.size≤D→RdW V0 Ds WB EB DB AB wc dc (acc++Bg g rl tt (AA mir (Bf ph))) (tt+(AA mir (Bf ph)).length) W'→W'.heap[D]?=some (.deferred (some []))→Q .normal { tmps:=#[e0,e1,.pointer (some ⟨WB,0,none⟩),.pointer (some ⟨EB,0,none⟩),e4,e5,.pointer (some ⟨DB,0,none⟩),.pointer (some ⟨AB,0,none⟩),e8,e9,ea,eb,ec,ed,ee,ef,eg,eh,ei,ej,ek,el,em,en,eo,ep,eq,er,es,et,eu,ev,ew,ex,ey,ez,eA,eB,eC,eD,eE,eF,eG,eH,eI,eJ,eK,eL,eM,eN,eO,eP,eQ,eR,eS,eT,eU,eV,eW,eX,eY,eZ,aa,ab,ac,ae,af,ag,ah,ai,aj,ak,al,am,an,.func (.func 63) #[] #[.pointer (some ⟨TB,0,none⟩),.pointer (some ⟨SB,0,none⟩),.pointer (some ⟨PB,0,none⟩),.pointer (some ⟨MB,0,none⟩)],ao,ap,aq,ar,au,av,aw,ax,ay,az,aA,aB,aC,aD,aE,aF,aG,aH,aI,aJ,aK,aL,aM,aN,aO,aP,aQ,aR,aS,aT,aU,aV,aW,aX,aY,aZ,ba,bb,bc,bd,be,bf,bg,bh,bi,bj,bk,bl,bm,bn],defers:={ target:=.collected D,args:=#[] }::dfs } W')
  (hZ:∀(D:Nat) (W':World),4096<(acc++Bg g rl tt (AA mir (Bf ph))).length→W.heap.size≤D→FullW V0 Ds WB EB W'→W'.heap[D]?=some (.deferred (some []))→Code.ret.wpIn Fence.wide 20 Tryz.prog Q { tmps:=#[e0,e1,.pointer (some ⟨WB,0,none⟩),.pointer (some ⟨EB,0,none⟩),e4,e5,.pointer (some ⟨DB,0,none⟩),.pointer (some ⟨AB,0,none⟩),e8,e9,ea,eb,ec,ed,ee,ef,eg,eh,ei,ej,ek,el,em,en,eo,ep,eq,er,es,et,eu,ev,ew,ex,ey,ez,eA,eB,eC,eD,eE,eF,eG,eH,eI,eJ,eK,eL,eM,eN,eO,eP,eQ,eR,eS,eT,eU,eV,eW,eX,eY,eZ,aa,ab,ac,ae,af,ag,ah,ai,aj,ak,al,am,an,.func (.func 63) #[] #[.pointer (some ⟨TB,0,none⟩),.pointer (some ⟨SB,0,none⟩),.pointer (some ⟨PB,0,none⟩),.pointer (some ⟨MB,0,none⟩)],ao,ap,aq,ar,au,av,aw,ax,ay,az,aA,aB,aC,aD,aE,aF,aG,aH,aI,aJ,aK,aL,aM,aN,aO,aP,aQ,aR,aS,aT,aU,aV,aW,aX,aY,aZ,ba,bb,bc,bd,be,bf,bg,bh,bi,bj,bk,bl,bm,bn],defers:={ target:=.collected D,args:=#[] }::dfs } W') :
  range10.wpIn Fence.wide 20 Tryz.prog Q { tmps:=#[e0,e1,.pointer (some ⟨WB,0,none⟩),.pointer (some ⟨EB,0,none⟩),e4,e5,.pointer (some ⟨DB,0,none⟩),.pointer (some ⟨AB,0,none⟩),e8,e9,ea,eb,ec,ed,ee,ef,eg,eh,ei,ej,ek,el,em,en,eo,ep,eq,er,es,et,eu,ev,ew,ex,ey,ez,eA,eB,eC,eD,eE,eF,eG,eH,eI,eJ,eK,eL,eM,eN,eO,eP,eQ,eR,eS,eT,eU,eV,eW,eX,eY,eZ,aa,ab,ac,ae,af,ag,ah,ai,aj,ak,al,am,an,.func (.func 63) #[] #[.pointer (some ⟨TB,0,none⟩),.pointer (some ⟨SB,0,none⟩),.pointer (some ⟨PB,0,none⟩),.pointer (some ⟨MB,0,none⟩)],ao,ap,aq,ar,au,av,aw,ax,ay,az,aA,aB,aC,aD,aE,aF,aG,aH,aI,aJ,aK,aL,aM,aN,aO,aP,aQ,aR,aS,aT,aU,aV,aW,aX,aY,aZ,ba,bb,bc,bd,be,bf,bg,bh,bi,bj,bk,bl,bm,bn],defers:=dfs } W:=by
 have hN:V0.heap.size≤B:=by omega
 unfold range10 code10
 conv=>arg 4;whnf
 generalize ha:AA mir (Bf ph)=L at *;refine F5 (by omega) (gf:=63) (lb:=#[.pointer (some ⟨TB,0,none⟩),.pointer (some ⟨SB,0,none⟩),.pointer (some ⟨PB,0,none⟩),.pointer (some ⟨MB,0,none⟩)]) rfl (enters_of Tryz.func63 (by kernel_rfl) rfl) (encs:=Nr) (L:=L) (B:=B) (Rd:=λW=>Below w0.heap.size w0 W)
  (ha▸OH s f w0 len rk Bf B G TB SB PB MB ph _ p mir W hA hU hP hp hQ hB hR hw) hB (λ_=>rfl)
  (λpre X=>RdW V0 Ds WB EB DB AB wc dc (acc++Bg g rl tt pre) (tt+pre.length) X∧B≤X.heap.size) (λX=>FullW V0 Ds WB EB X∧4096<(acc++Bg g rl tt L).length) (λpre X Y h hb=>⟨h.1.mvr hb hN hJ hM,Nat.le_trans h.2 hb.size⟩) (λX Y h hb=>⟨h.1.mvr hb hN hM,h.2⟩) ⟨by simpa [Bg] using hS,hB⟩ (λpre X h=>h.1.low h0 hG hH)
  (λpre x a' X=>∃XB:Nat,a'={ tmps:=#[e0,e1,.pointer (some ⟨WB,0,none⟩),.pointer (some ⟨EB,0,none⟩),e4,e5,.pointer (some ⟨DB,0,none⟩),.pointer (some ⟨AB,0,none⟩),.pointer (some ⟨XB,0,none⟩),e9,ea,eb,ec,ed,ee,ef,eg,eh,ei,ej,ek,el,em,en,eo,ep,eq,er,es,et,eu,ev,ew,ex,ey,ez,eA,eB,eC,eD,eE,eF,eG,eH,eI,eJ,eK,eL,eM,eN,eO,eP,eQ,eR,eS,eT,eU,eV,eW,eX,eY,eZ,aa,ab,ac,ae,af,ag,ah,ai,aj,ak,al,am,an,.func (.func 63) #[] #[.pointer (some ⟨TB,0,none⟩),.pointer (some ⟨SB,0,none⟩),.pointer (some ⟨PB,0,none⟩),.pointer (some ⟨MB,0,none⟩)],.agg #[.slice x.ma x.ms.length x.mc,.bool x.mir],ap,aq,ar,au,av,aw,ax,ay,az,aA,aB,aC,aD,aE,aF,aG,aH,aI,aJ,aK,aL,aM,aN,aO,aP,aQ,aR,aS,aT,aU,aV,aW,aX,aY,aZ,ba,bb,bc,bd,be,bf,bg,bh,bi,bj,bk,bl,bm,bn],defers:=[] }∧B≤XB∧X.heap[XB]?=some (.cells #[.slice x.ma x.ms.length x.mc,.bool x.mir] 90 (0,0)))
  ?hassign ?hAx ?hbody ?hdone ?hstop
 case hAx =>
  rintro pre x a' X Y ⟨XB,h1,h2,h3⟩ hb;exact ⟨XB,h1,h2,(hb.block XB (qs.1 h3).1 (Or.inr ⟨_,_,_,h3,by decide⟩)).trans h3⟩
 case hdone =>
  intro D X hD hI hm;exact hY D X hD hI.1 hm
 case hstop =>
  intro D X hD hI hm;exact hZ D X hI.2 hD hI.1 hm
 case hbody =>
  rintro l pre x rest a' X hC hI ⟨XB,rfl,hE,hX⟩;have hx:=hL x (by rw [hC];simp);have hc:pre.length≤100000000:=by rw [hC] at hF;simp at hF;omega
  have hr:=λQ h1 h2=>Qb g l 18 w0 V0 X Ds WB EB DB AB XB B x.mc x.ma wc dc rl (tt+pre.length) (acc++Bg g rl tt pre) x.mir x.ms hz hd hI.1 hX hx.1 hx.2.1 hx.2.2.1 hx.2.2.2 (by omega) h0 hG hH hT hV hW hJ hE Q h1 h2
  refine wpIn_block ?_;change Code.wpIn _ _ _ round10 _ _ _;refine hr _ (λ⟨_,_,h⟩=>h) (λ_ _ _ _ _ h=>h) _ _ _ _ _ _ _ _ _ _ _ _ _ _ _ _ _ _ _ _ _ _ _ _ _ _ _ _ _ _ _ _ _ _ _ _ _ _ _ _ _ _ _ _ _ _ _ _ _ _ _ _ _ _ _ _ _ _ _ _ _ _ _ _ _ _ _ _ _ _ _ _ _ _ _ _ _ _ _ _ _ _ _ _ _ _ _ _ _ _ _ _ _ _ _ _ _ _ _ _ _ _ _ _ _ _ _ _ _ _ _ _ _ _ _ _ _ _ _ _ _ ?_ ?_
  ·intro a Y h1 h2
   refine ⟨h2,?_,Nat.le_trans hI.2 h2.size⟩;have e:tt+(pre.length:Int)+1=tt+((pre++[x]).length:Int):=by simp only [List.length_append,List.length_cons,List.length_nil];omega
   rw [e] at h1
   show RdW V0 Ds WB EB DB AB wc dc (acc++Bg g rl tt (pre++[x])) (tt+((pre++[x]).length:Int)) Y
   rw [G5,← List.append_assoc];exact h1
  ·intro a Y h1 h2 h3
   refine ⟨h2,h1,Nat.lt_of_lt_of_le h3 ?_⟩;rw [hC,GO,Bg];simp only [List.length_append];omega
 case hassign =>
  intro l pre x X K hI hK;have he:=qh hK;have hi:=hI.2;clear hK;obtain ⟨X2,e2,g2,b2,s2⟩:=Af X #[.slice x.ma x.ms.length x.mc,.bool x.mir] 90;have hO:=qh g2;have hf:=qh b2;obtain ⟨XB,hE⟩:∃XB,X.heap.size=XB:=⟨_,rfl⟩;rw [hE] at hO;have hg:B≤XB:=by omega
  clear g2 b2 s2;unfold Nr;gi_wp2_with fail;exact he.out _ _ hf.out ⟨XB,rfl,hg,hO.out⟩
end
end
section
open Go Go.RowKit Go.Shelf Go.Deep
noncomputable def dances10:Code:=(code10.blkOf 0).getD .skip
structure DnX where
 d:Dan
 rl:Int
 ph:Nat
def DnX.enc(x:DnX):Array Value:=#[sv x.d.rn,int i64 x.rl,sv x.d.pn,int i64 (x.ph:Nat),int i64 x.d.bar,.bool x.d.mirror]
def DnX.bars(Bf:Int→List BarR)(x:DnX):List BarR:=AA x.d.mirror (Bf x.ph)
def DnX.sgs(g:Nm→Int)(Bf:Int→List BarR)(x:DnX):List Sgn:=Bg g x.rl x.d.bar (x.bars Bf)
structure DnOk(g:Nm→Int)(s:Ls)(Bf:Int→List BarR)(w0:World)(b o:Nat)(x:DnX):Prop where
 at_:∀(k:Nat) (v:Value),x.enc[k]?=some v→w0.cell? ⟨b,o+k,none⟩=some v
 phr:∃p,s.phrases[x.ph]?=some p
 bar:0≤x.d.bar∧x.d.bar≤100000000
 mv:∀y∈x.bars Bf,GK g w0 y
 len:(x.bars Bf).length≤100000000
structure GtW(V0:World)(Ds:List Nat)(WB EB:Nat)(wc:Array Value)(acc:List Sgn)(W:World):Prop where
 os:W.os=V0.os
 tape:W.tape=V0.tape
 output:W.output=V0.output
 size:V0.heap.size≤W.heap.size
 block:∀b,b<V0.heap.size→b≠WB→b≠EB→W.heap[b]?=V0.heap[b]?
 row:∃v,W.heap[WB]?=some (.cells (wc.push v) 39 (0,0))∧W.ownsRow V0.heap.size 54 14 v acc.length (acc.flatMap Av)
 eb:W.heap[EB]?=some (.cells #[int i64 0] 40 (0,0))
 few:acc.length≤4096
 marks:∀D∈Ds,W.heap[D]?=some (.deferred (some []))
theorem RdW.gt{V0:World}{Ds:List Nat}{WB EB DB AB:Nat}{wc dc:Array Value}{acc:List Sgn}{tt:Int}{W:World}(h:RdW V0 Ds WB EB DB AB wc dc acc tt W):GtW V0 Ds WB EB wc acc W:=⟨h.os,h.tape,h.output,h.size,h.block,h.row,h.eb,h.few,h.marks⟩
theorem GtW.rd{V0:World}{Ds:List Nat}{WB EB DB AB:Nat}{wc dc:Array Value}{acc:List Sgn}{tt:Int}{W:World}(h:GtW V0 Ds WB EB wc acc W)(h1:W.heap[DB]?=some (.cells dc 64 (0,0)))(h2:W.heap[AB]?=some (.cells #[int i64 tt] 3 (0,0))):RdW V0 Ds WB EB DB AB wc dc acc tt W:=⟨h.os,h.tape,h.output,h.size,h.block,h.row,h.eb,h1,h2,h.few,h.marks⟩
theorem GtW.below{V0:World}{Ds:List Nat}{WB EB:Nat}{wc:Array Value}{acc:List Sgn}{W W':World}(h:GtW V0 Ds WB EB wc acc W)(hb:Below W.heap.size W W'):GtW V0 Ds WB EB wc acc W':=by
 obtain ⟨v,hv,ho⟩:=h.row;have hs:=h.size;exact ⟨hb.os.trans h.os,hb.tape.trans h.tape,hb.output.trans h.output,Nat.le_trans h.size hb.size,λb h1 h2 h3=>(hb.block b (by omega)).trans (h.block b h1 h2 h3),⟨v,Ah hb hv,B9 ho hb⟩,Ah hb h.eb,h.few,λD hD=>Ah hb (h.marks D hD)⟩
theorem GtW.low{w0 V0:World}{Ds:List Nat}{WB EB:Nat}{wc:Array Value}{acc:List Sgn}{W:World}(h:GtW V0 Ds WB EB wc acc W)(hb:Below w0.heap.size w0 V0)(hW:w0.heap.size≤WB)(hE:w0.heap.size≤EB):Below w0.heap.size w0 W :=
 ⟨h.os.trans hb.os,h.tape.trans hb.tape,h.output.trans hb.output,Nat.le_trans hb.size h.size,λb hA=>(h.block b (by have:=hb.size;omega) (by omega) (by omega)).trans (hb.block b hA)⟩
def Ux(n:Nat)(a:Act)(_:World):Nat:=n+1-(intOf (a.tmps.getD 63 undef)).toNat
section
theorem QR(g:Nm→Int)(s:Ls)(f:Nm→Int)(len:Int→Int)(rk:Nat→Nat)(Bf:Int→List BarR)(w0 V0:World)(SX WB EB nd dcap fb fo:Nat)(da:Option Addr)(wc:Array Value)(ds:List DnX)(ho:ds.length=nd)(hq:ds=[]∨da=some ⟨fb,fo,none⟩)(HT:nd≤1000000)
  (hA:s.At w0) (hU:NumAt f w0 (Ar s.phrases)) (hr:BarOk s f rk len Bf) (HB:s.phrases.length≤1000) (hs:∀(i:Nat) (x:DnX),ds[i]?=some x→DnOk g s Bf w0 fb (fo+i*6) x)
  (hz:wc.size=10) (hS:GtW V0 [] WB EB wc [] V0) (ht:V0.heap[SX]?=some (.cells s.cells 30 (0,0)))
  (h0:Below w0.heap.size w0 V0) (hW:w0.heap.size≤WB) (hX:w0.heap.size≤EB) (HC:WB<V0.heap.size) (HD:EB<V0.heap.size) (Q:Exit→Act→World→Prop)
  (hu:∀(W':World) (Ds:List Nat) (v6 v7 v63 v64 v65 v66 v67 v68 v69 v70 v71 v72 v73 v74 v75 v108:Value),GtW V0 Ds WB EB wc (ds.flatMap λx=>x.sgs g Bf) W'→Ds.Nodup→(∀D∈Ds,V0.heap.size≤D)→Q .normal { tmps:=#[e0,.pointer (some ⟨SX,0,none⟩),.pointer (some ⟨WB,0,none⟩),.pointer (some ⟨EB,0,none⟩),e4,e5,v6,v7,e8,e9,ea,ec,ed,ee,ef,eg,eh,ei,ej,ek,el,em,en,eo,ep,eq,er,es,et,eu,ev,ew,ex,ey,ez,eA,eB,eC,eD,eE,eF,eG,eH,eI,eJ,eK,eL,eM,eN,eO,eP,eQ,eR,eS,eT,eU,eV,eW,eX,eY,eZ,.slice da nd dcap,int i64 (nd:Nat),v63,v64,v65,v66,v67,v68,v69,v70,v71,v72,v73,v74,v75,aa,ab,ac,ae,af,ag,ah,ai,aj,ak,al,am,an,ao,ap,aq,ar,au,av,aw,ax,ay,az,aA,aB,aC,aD,aE,aF,aG,aH,aI,v108,aJ,aK,aL,aM,aN,aO,aP,aQ,aR,aS,aT,aU,aV,aW,aX,aY,aZ],defers:=DT Ds } W')
  (hw:∀(W':World) (Ds:List Nat) (tmps:Array Value),tmps.getD 2 undef=.pointer (some ⟨WB,0,none⟩)→tmps.getD 3 undef=.pointer (some ⟨EB,0,none⟩)→4096<(ds.flatMap λx=>x.sgs g Bf).length→FullW V0 Ds WB EB W'→Ds.Nodup→(∀D∈Ds,V0.heap.size≤D)→Q .ret { tmps:=tmps,defers:=DT Ds } W') :
  dances10.wpIn Fence.wide 20 Tryz.prog (Exit.inBlock 0 Q) { tmps:=#[e0,.pointer (some ⟨SX,0,none⟩),.pointer (some ⟨WB,0,none⟩),.pointer (some ⟨EB,0,none⟩),e4,e5,u6,u7,e8,e9,ea,ec,ed,ee,ef,eg,eh,ei,ej,ek,el,em,en,eo,ep,eq,er,es,et,eu,ev,ew,ex,ey,ez,eA,eB,eC,eD,eE,eF,eG,eH,eI,eJ,eK,eL,eM,eN,eO,eP,eQ,eR,eS,eT,eU,eV,eW,eX,eY,eZ,.slice da nd dcap,int i64 (nd:Nat),int i64 (0:Nat),u64,u65,u66,u67,u68,u69,u70,u71,u72,u73,u74,u75,aa,ab,ac,ae,af,ag,ah,ai,aj,ak,al,am,an,ao,ap,aq,ar,au,av,aw,ax,ay,az,aA,aB,aC,aD,aE,aF,aG,aH,aI,u108,aJ,aK,aL,aM,aN,aO,aP,aQ,aR,aS,aT,aU,aV,aW,aX,aY,aZ],defers:=[] } V0:=by
 have HE:=qh hu;have HF:=qh hw;have ha:=qh hS;have hH:=qh ht;have hY:=qh h0;have hb:=qh hs;have hc:=qh hq;have hO:=qh ho;have HG:=qh hz;have hy:=qh hA;have HH:=qh hU;have hd:=qh hr;clear hu hw hS ht h0 hs hq ho hz hA hU hr;unfold dances10 code10
 conv=>arg 4;whnf
 refine wpIn_loop (λa W=>∃(i:Nat) (Ds:List Nat) (u6 u7 u64 u65 u66 u67 u68 u69 u70 u71 u72 u73 u74 u75 u108:Value),a={ tmps:=#[e0,.pointer (some ⟨SX,0,none⟩),.pointer (some ⟨WB,0,none⟩),.pointer (some ⟨EB,0,none⟩),e4,e5,u6,u7,e8,e9,ea,ec,ed,ee,ef,eg,eh,ei,ej,ek,el,em,en,eo,ep,eq,er,es,et,eu,ev,ew,ex,ey,ez,eA,eB,eC,eD,eE,eF,eG,eH,eI,eJ,eK,eL,eM,eN,eO,eP,eQ,eR,eS,eT,eU,eV,eW,eX,eY,eZ,.slice da nd dcap,int i64 (nd:Nat),int i64 (i:Nat),u64,u65,u66,u67,u68,u69,u70,u71,u72,u73,u74,u75,aa,ab,ac,ae,af,ag,ah,ai,aj,ak,al,am,an,ao,ap,aq,ar,au,av,aw,ax,ay,az,aA,aB,aC,aD,aE,aF,aG,aH,aI,u108,aJ,aK,aL,aM,aN,aO,aP,aQ,aR,aS,aT,aU,aV,aW,aX,aY,aZ],defers:=DT Ds }∧i≤nd∧Hid (GtW V0 Ds WB EB wc ((ds.take i).flatMap λx=>x.sgs g Bf) W)∧Hid (Ds.Nodup∧∀D∈Ds,V0.heap.size≤D)) (Ux nd) ⟨0,[],_,_,_,_,_,_,_,_,_,_,_,_,_,_,_,rfl,Nat.zero_le _,qh (by simpa using ha.out),qh ⟨List.nodup_nil,by simp⟩⟩ ?_;rintro a W ⟨i,Ds,u6,u7,u64,u65,u66,u67,u68,u69,u70,u71,u72,u73,u74,u75,u108,rfl,HU,hG,hN⟩;by_cases hi:i<nd
 case neg =>
  obtain rfl:i=nd:=by omega
  have HI:¬((i:Nat):Int)<(i:Int):=by omega
  gi_wp2_with fail;have h2:=hG.out;rw [List.take_of_length_le (by rw [hO.out];exact qn _)] at h2;exact HE.out W Ds _ _ _ _ _ _ _ _ _ _ _ _ _ _ _ _ h2 hN.out.1 hN.out.2
 have HI:((i:Nat):Int)<(nd:Int):=by omega
 obtain ⟨x,hx⟩:∃x,ds[i]?=some x:=⟨_,qg (by rw [hO.out];exact hi)⟩;obtain rfl:da=some ⟨fb,fo,none⟩:=hc.out.resolve_left (λe=>by rw [e] at hx;simp at hx);have hJ:=hb.out i x hx;have hC:=hG.out.low hY.out hW hX
 have hP:(ds.take (i+1)).flatMap (λx=>x.sgs g Bf)=(ds.take i).flatMap (λx=>x.sgs g Bf)++Bg g x.rl x.d.bar (AA x.d.mirror (Bf x.ph)):=by
  rw [List.take_add_one,hx];simp [DnX.sgs,DnX.bars]
 have he:=qh hJ;have hL:=qh hP;obtain ⟨p,hp⟩:=hJ.phr;have h3:=qh hp;have HJ:x.ph≤1000:=by have:=(ql.1 hp).1;omega
 have HK:=hJ.bar;have d0:W.cell? ⟨fb,fo+i*6+0,none⟩=some (sv x.d.rn):=Ad hC (hJ.at_ 0 _ rfl);rw [Nat.add_zero] at d0;have d1:W.cell? ⟨fb,fo+i*6+1,none⟩=some (int i64 x.rl):=Ad hC (hJ.at_ 1 _ rfl);have d2:W.cell? ⟨fb,fo+i*6+2,none⟩=some (sv x.d.pn):=Ad hC (hJ.at_ 2 _ rfl);have d3:W.cell? ⟨fb,fo+i*6+3,none⟩=some (int i64 (x.ph:Nat)):=Ad hC (hJ.at_ 3 _ rfl);have d4:W.cell? ⟨fb,fo+i*6+4,none⟩=some (int i64 x.d.bar):=Ad hC (hJ.at_ 4 _ rfl);have d5:W.cell? ⟨fb,fo+i*6+5,none⟩=some (.bool x.d.mirror):=Ad hC (hJ.at_ 5 _ rfl)
 have h5:W.heap[SX]?=some (.cells s.cells 30 (0,0)):=(hG.out.block SX (qs.1 hH.out).1 (λe=>by
  obtain ⟨v,hv,_⟩:=ha.out.row
  rw [e] at hH;exact absurd rfl (B6 hH.out hv (by decide))) (λe=>by rw [e] at hH;exact absurd rfl (B6 hH.out ha.out.eb (by decide)))).trans hH.out
 cases x with
 | mk dd rl ph =>
 cases dd with
 | mk rn pn bar mirror =>
 simp only at d0 d1 d2 d3 d4 d5 HJ HK h3 hL;obtain ⟨W1,e1,g1,b1,s1⟩:=Af W #[sv rn,int i64 rl,sv pn,int i64 (ph:Nat),int i64 bar,.bool mirror] 64;obtain ⟨DB,HL⟩:∃DB,W.heap.size=DB:=⟨_,rfl⟩;obtain ⟨W2,e2,g2,b2,s2⟩:=Af W1 #[int i64 bar] 3;obtain ⟨AB,HM⟩:∃AB,W1.heap.size=AB:=⟨_,rfl⟩;rw [HL] at g1;rw [HM] at g2;have q4:W1.cell? ⟨DB,4,none⟩=some (int i64 bar):=Aa g1 4 rfl;have gd2:=Ah b2 g1;have q3:W2.cell? ⟨DB,3,none⟩=some (int i64 (ph:Nat)):=Aa gd2 3 rfl;have q5:W2.cell? ⟨DB,5,none⟩=some (.bool mirror):=Aa gd2 5 rfl;have hB:=Ah (Ag b1 b2) h5;have z0:W2.cell? ⟨SX,0,none⟩=some (sv s.name):=Aa hB 0 rfl;have z1:W2.cell? ⟨SX,1,none⟩=some (int i64 s.wd):=Aa hB 1 rfl;have z2:W2.cell? ⟨SX,2,none⟩=some (int i64 s.dp):=Aa hB 2 rfl;have z3:W2.cell? ⟨SX,3,none⟩=some (int i64 s.bars):=Aa hB 3 rfl;have z4:W2.cell? ⟨SX,4,none⟩=some (int i64 s.t0):=Aa hB 4 rfl;have z5:W2.cell? ⟨SX,5,none⟩=some (int i64 s.t1):=Aa hB 5 rfl;have z6:W2.cell? ⟨SX,6,none⟩=some (.slice s.ra s.roles.length s.rc):=Aa hB 6 rfl;have z7:W2.cell? ⟨SX,7,none⟩=some (.slice s.ta s.tempos.length s.tc):=Aa hB 7 rfl;have z8:W2.cell? ⟨SX,8,none⟩=some (.slice s.ua s.pauses.length s.uc):=Aa hB 8 rfl;have z9:W2.cell? ⟨SX,9,none⟩=some (.slice s.sa s.spans.length s.sc):=Aa hB 9 rfl;have za:W2.cell? ⟨SX,10,none⟩=some (.slice s.fa s.phrases.length s.fc):=Aa hB 10 rfl;have zb:W2.cell? ⟨SX,11,none⟩=some (.slice s.da s.dances.length s.dc):=Aa hB 11 rfl;have hf:RdW V0 Ds WB EB DB AB wc #[sv rn,int i64 rl,sv pn,int i64 (ph:Nat),int i64 bar,.bool mirror] ((ds.take i).flatMap λx=>x.sgs g Bf) bar W2:=(hG.out.below (Ag b1 b2)).rd gd2 g2;have CB:=OG s w0 len ph mirror W2 hy.out (hf.low hY.out hW hX) HB;have hI:=qh hf;have hg:=qh CB;have h6:AB<W2.heap.size∧V0.heap.size≤AB∧W.heap.size≤W2.heap.size:=by have:=hG.out.size;have:=b1.size;omega
 have hK:=qh h6;clear hJ hC hP hx hp h5 g1 g2 gd2 hB hf CB b1 b2 s1 s2 h6;gi_wp2_with fail;refine ⟨trivial,?_⟩;refine (callsIn_wide.2 hg.out).mono ?_;rintro e W3 ⟨G,TB,SB,PB,MB,rfl,h7,hh,hT,HN,HO⟩;have h8:=hI.out.below hh;have hj:=qh h8;have hk:=qh h7;have HP:=hh.size;have hQ:∀D∈Ds,D<W2.heap.size:=λD hD=>(qs.1 (hI.out.marks D hD)).1
 have hR:=hI.out.low hY.out hW hX;have HQ:=hR.size;have hM:=qh hQ;clear hh h8 h7 q3 q4 q5 d0 d1 d2 d3 d4 d5 z0 z1 z2 z3 z4 z5 z6 z7 z8 z9 za zb hQ hR e1 e2;gi_wp2_with fail;change Code.wpIn _ _ _ range10 _ _ _;refine Qa g s f len rk Bf w0 V0 W3 Ds WB EB DB AB W2.heap.size G TB SB PB MB ph p wc _ rl bar ((ds.take i).flatMap λx=>x.sgs g Bf) mirror hy.out HH.out hd.out h3.out ⟨hT,HN,HO⟩ HP HQ hk.out he.out.mv he.out.len he.out.bar HG.out rfl hj.out hY.out hW hX HC HD hK.out.2.1 hK.out.1 hM.out _ _ ?_ ?_
 ·intro D W4 HR h9 hZ
  have HA:GtW V0 (D::Ds) WB EB wc ((ds.take (i+1)).flatMap λx=>x.sgs g Bf) W4:=by
   have h4:=h9.gt;rw [← hL.out] at h4
   exact ⟨h4.os,h4.tape,h4.output,h4.size,h4.block,h4.row,h4.eb,h4.few,λE hE=>by
    rcases List.mem_cons.1 hE with rfl|hE
    ·exact hZ
    ·exact h4.marks E hE⟩
  have hl:=qh HA
  have HS:Hid ((D::Ds).Nodup∧∀E∈D::Ds,V0.heap.size≤E):=qh ⟨List.nodup_cons.2 ⟨λhm=>by have:=hM.out D hm;omega,hN.out.1⟩,λE hE=>by
   rcases List.mem_cons.1 hE with rfl|hE
   ·have:=hK.out;have:=hI.out.size;omega
   ·exact hN.out.2 E hE⟩
  clear HA h9 hZ;gi_wp2_with fail;refine ⟨⟨i+1,D::Ds,_,_,_,_,_,_,_,_,_,_,_,_,_,_,_,rfl,by omega,hl,HS⟩,?_⟩;simp [Ux,intOf];omega
 ·intro D W4 hV HR hF hZ
  have hn:4096<(ds.flatMap λx=>x.sgs g Bf).length:=by
   have h1:=hL.out
   try simp only at h1
   rw [← h1] at hV;refine Nat.lt_of_lt_of_le hV ?_
   conv=>rhs;rw [← List.take_append_drop (i+1) ds]
   rw [List.flatMap_append,List.length_append];omega
  refine wpIn_ret ?_
  exact HF.out W4 (D::Ds) _ rfl rfl hn ⟨hF.os,hF.tape,hF.output,hF.size,hF.block,hF.wb,hF.eb,λE hE=>by
    rcases List.mem_cons.1 hE with rfl|hE
    ·exact hZ
    ·exact hF.marks E hE⟩ (List.nodup_cons.2 ⟨λhm=>by have:=hM.out D hm;omega,hN.out.1⟩) (λE hE=>by
   rcases List.mem_cons.1 hE with rfl|hE
   ·have:=hK.out;have:=hI.out.size;omega
   ·exact hN.out.2 E hE)
end
end
section
open Go Go.RowKit Go.Shelf Go.Deep
noncomputable def tail10:Code:=Ab 7 code10
def Vt:Sgn:=⟨0,0,0,0,0,0,0,0,0,0,0,0,0,0⟩
def ixS(l:List Sgn)(i:Nat):Sgn:=(l[i]?).getD Vt
def Ez(Y:Nat→Sgn)(i:Nat):Nat→Sgn:=λq=>if q<i then { Y q with id:=q } else Y q
def SgnRow(Z:Nat)(W:World)(v:Value)(N:Nat)(L:Nat→Sgn):Prop:=(N=0∧∃ao c,v=.slice ao 0 c)∨∃g cap,v=.slice (some ⟨g,0,none⟩) N cap∧Z≤g∧RowS id g 0 N L W
theorem J1{Z:Nat}{W:World}{v:Value}{acc:List Sgn}(h:W.ownsRow Z 54 14 v acc.length (acc.flatMap Av)):SgnRow Z W v acc.length (ixS acc):=by
 have hc:=λg hg=>h.cells (g:=g) hg
 rcases h.2 with ⟨rfl,e⟩|⟨g,cap,cur,rfl,hB,hg,_⟩
 ·exact Or.inl ⟨e,_,_,rfl⟩
 ·refine Or.inr ⟨g,cap,rfl,hB,⟨λi hi j u hu=>?_,⟨cur,54,hg⟩⟩⟩
  have hA:AtRow Av 14 W g 0 acc:=(Ei (enc:=Av) (k:=14) (λx=>rfl)).2 λj u hj=>by
   have:=hc g rfl j u hj;rw [Bc] at this;exact this
  have hx:acc[i]?=some (ixS acc i):=by simp [ixS,qg hi]
  exact hA i _ hx j u hu
theorem RowS.putId{g N i:Nat}{L:Nat→Sgn}{w:World}(h:RowS id g 0 N L w)(hi:i<N)(k:Int):RowS id g 0 N (λq=>if q=i then { L i with id:=k } else L q) (w.setCell ⟨g,i*14,none⟩ (int i64 k)):=by
 refine ⟨λq hq j u hu=>?_,h.free.set _ _⟩;have h0:=h.at_ i hi 0 _ rfl;by_cases hA:q=i
 ·subst hA
  simp only [if_true,id] at hu
  cases j with
  | zero =>
   simp only [Av,List.getElem?_cons_zero,Option.some.injEq] at hu;subst hu;simp only [Nat.zero_add,Nat.add_zero] at h0 ⊢;exact World.cell?_setCell_same _ _ _ h0
  | succ j =>
   exact Ac (h.at_ q hq (j+1) u (by simpa [Av] using hu)) (by simp)
 ·simp only [hA,if_false,id] at hu
  have hj:j<14:=by
   have:=(ql.1 hu).1;simpa [Av] using this
  refine Ac (h.at_ q hq j u hu) (λe=>?_);injection e with _ e;omega
theorem SgnRow.form{Z:Nat}{W:World}{v:Value}{N:Nat}{L:Nat→Sgn}(h:SgnRow Z W v N L):∃ao c,v=.slice ao N c:=by
 rcases h with ⟨rfl,ao,c,e⟩|⟨g,cap,e,_⟩
 ·exact ⟨ao,c,e⟩
 ·exact ⟨_,_,e⟩
structure FinW(V0:World)(Ds:List Nat)(WB EB:Nat)(wc:Array Value)(N:Nat)(L:Nat→Sgn)(W:World):Prop where
 os:W.os=V0.os
 tape:W.tape=V0.tape
 output:W.output=V0.output
 size:V0.heap.size≤W.heap.size
 block:∀b,b<V0.heap.size→b≠WB→b≠EB→W.heap[b]?=V0.heap[b]?
 row:∃v,W.heap[WB]?=some (.cells (wc.push v) 39 (0,0))∧SgnRow V0.heap.size W v N L
 eb:W.heap[EB]?=some (.cells #[int i64 0] 40 (0,0))
 marks:∀D∈Ds,W.heap[D]?=some (.deferred (some []))
theorem GtW.fin{V0:World}{Ds:List Nat}{WB EB:Nat}{wc:Array Value}{acc:List Sgn}{W:World}(h:GtW V0 Ds WB EB wc acc W):FinW V0 Ds WB EB wc acc.length (ixS acc) W:=by
 obtain ⟨v,hv,ho⟩:=h.row;exact ⟨h.os,h.tape,h.output,h.size,h.block,⟨v,hv,J1 ho⟩,h.eb,h.marks⟩
theorem FinW.but{V0:World}{Ds:List Nat}{WB EB:Nat}{wc:Array Value}{N g cap:Nat}{L L':Nat→Sgn}{W W':World}(h:FinW V0 Ds WB EB wc N L W)(hA:WB<V0.heap.size)(hB:EB<V0.heap.size)(hv:W.heap[WB]?=some (.cells (wc.push (.slice (some ⟨g,0,none⟩) N cap)) 39 (0,0)))(hg:V0.heap.size≤g)(hf:FreeB W g)(hb:ButOne g W W')(hr:RowS id g 0 N L' W'):FinW V0 Ds WB EB wc N L' W':=by
 have kp:∀(b:Nat) (o:Obj),W.heap[b]?=some o→b≠g→W'.heap[b]?=some o:=λb o e ne=>(hb.block b (qs.1 e).1 ne).trans e
 have hs:=h.size;refine ⟨hb.os.trans h.os,hb.tape.trans h.tape,hb.output.trans h.output,Nat.le_trans h.size hb.size,λb h1 h2 h3=>(hb.block b (by omega) (by omega)).trans (h.block b h1 h2 h3),⟨_,kp _ _ hv (by omega),Or.inr ⟨g,cap,rfl,hg,hr⟩⟩,kp _ _ h.eb (by omega),λD hD=>kp _ _ (h.marks D hD) (λe=>?_)⟩;have hm:=h.marks D hD;obtain ⟨cur,t,hc⟩:=hf;rw [e,hc] at hm;cases hm
theorem FinW.fill{V0:World}{Ds:List Nat}{WB EB:Nat}{wc:Array Value}{N:Nat}{L:Nat→Sgn}{W:World}{v:Value}(h:FinW V0 Ds WB EB wc N L W)(hB:WB<V0.heap.size)(hC:EB<V0.heap.size)(hv:W.heap[WB]?=some (.cells (wc.push v) 39 (0,0)))(hr:SgnRow V0.heap.size W v N L):FinW V0 Ds WB EB wc N L ((W.setRow WB (wc.push v)).setCell ⟨EB,0,none⟩ (int i64 0)):=by
 obtain ⟨W2,e2,g2,_⟩:=AO (cs:=wc.push v) hv (Below.refl 0 W) (Nat.zero_le _);have o2:=λb hA=>setRow_other W WB b (wc.push v) hA
 rw [e2] at o2 ⊢;have ne:=B6 h.eb hv (by decide);obtain ⟨W3,e3,g3,o3,_,s3⟩:=Bp ((o2 EB ne).trans h.eb) (int i64 0);rw [e3];have s2:W2.heap.size=W.heap.size:=by rw [← e2];simp [World.setRow]
 have al:∀b,W3.heap[b]?=W.heap[b]?:=λb=>by
  by_cases h1:b=EB
  ·rw [h1,g3,h.eb]
  ·rw [o3 b h1]
   by_cases h2:b=WB
   ·rw [h2,g2,hv]
   ·exact o2 b h2
 have q1:W3.os=W.os∧W3.tape=W.tape∧W3.output=W.output:=by rw [← e3,← e2];exact ⟨rfl,rfl,rfl⟩
 have ca:∀x:Addr,W3.cell? x=W.cell? x:=λx=>World.cell?_of_block (al x.block)
 refine ⟨q1.1.trans h.os,q1.2.1.trans h.tape,q1.2.2.trans h.output,by rw [s3,s2];exact h.size,λb h1 h2 h3=>(al b).trans (h.block b h1 h2 h3),⟨v,(al WB).trans hv,?_⟩,(al EB).trans h.eb,λD hD=>(al D).trans (h.marks D hD)⟩;rcases hr with hn|⟨g,cap,e,hg,hr⟩
 ·exact Or.inl hn
 ·obtain ⟨cur,t,hc⟩:=hr.free
  exact Or.inr ⟨g,cap,e,hg,λi hi j u hu=>(ca _).trans (hr.at_ i hi j u hu),⟨cur,t,(al g).trans hc⟩⟩
section
theorem Qo(V0 W:World)(Ds:List Nat)(WB EB:Nat)(w0 w1 w2 w3 w4 w5 w6 w7 w8 w9:Value)(acc:List Sgn)(hS:GtW V0 Ds WB EB #[w0,w1,w2,w3,w4,w5,w6,w7,w8,w9] acc W)(hB:∀v:Value,v.oneCell'=true→(#[w0,w1,w2,w3,w4,w5,w6,w7,w8,w9,v]:Array Value).all (·.oneCell')=true)(hC:WB<V0.heap.size)(hD:EB<V0.heap.size)(Q:Exit→Act→World→Prop)
  (hQ:∀(W':World) (Y:Nat→Sgn) (tmps:Array Value),tmps.getD 2 undef=.pointer (some ⟨WB,0,none⟩)→tmps.getD 3 undef=.pointer (some ⟨EB,0,none⟩)→FinW V0 Ds WB EB #[w0,w1,w2,w3,w4,w5,w6,w7,w8,w9] acc.length (Ez Y acc.length) W'→Stb C4 (ixS acc) Y 0 acc.length→Srt C4 Y 0 acc.length→Q .ret { tmps:=tmps,defers:=DT Ds } W') :
  tail10.wpIn Fence.wide 20 Tryz.prog Q { tmps:=#[e0,e1,.pointer (some ⟨WB,0,none⟩),.pointer (some ⟨EB,0,none⟩),e4,e5,e6,e7,e8,e9,ea,ec,ed,ee,ef,eg,eh,ei,ej,ek,el,em,en,eo,ep,eq,er,es,et,eu,ev,ew,ez,eA,eB,eC,eD,eE,eF,eG,eH,eI,eJ,eK,eL,eM,eN,eO,eP,eQ,eR,eS,eT,eU,eV,eW,eX,eY,eZ,aa,ab,ac,ae,af,ag,ah,ai,aj,ak,al,am,an,ap,aq,ar,au,av,aw,ax,ay,az,aA,aB,aC,aD,aE,aF,aG,aH,aI,aJ,aK,aL,aM,aN,aO,aP,aQ,aR,aS,aT,aU,aV,aW,aX,aY,aZ,ba,bb,bc,bd,be,bf,bg,bh,bi,bj,bk,bl,bm,bn,bo,bp,bq,br,bs],defers:=DT Ds } W:=by
 have hE:=hS.few;have hF:=hS.fin;obtain ⟨N,hN⟩:∃N,acc.length=N:=⟨_,rfl⟩;obtain ⟨X,hX⟩:∃X,ixS acc=X:=⟨_,rfl⟩;rw [hN,hX] at hF hQ;rw [hN] at hE;clear hS hN hX;obtain ⟨v,hv,hr⟩:=hF.row
 have CS:Calls Tryz.prog 34 #[v,.func (.func 35) #[] #[]] W λe w'=>e=.returned (.tuple #[])∧Hid (∃Y,FinW V0 Ds WB EB #[w0,w1,w2,w3,w4,w5,w6,w7,w8,w9] N Y w'∧Stb C4 X Y 0 N∧Srt C4 Y 0 N):=by
  rcases hr with ⟨rfl,ao,c,rfl⟩|⟨g,cap,rfl,hg,hr⟩
  ·refine (Jg ao c _ W).mono ?_
   rintro e w' ⟨rfl,rfl⟩;exact ⟨rfl,qh ⟨X,hF,Stb.refl _ _ _ _,λi j _ _ h=>by omega⟩⟩
  ·refine (L2 id C4 35 Uw g 0 cap N X W (by omega) hr).mono ?_
   rintro e w' ⟨rfl,Y,h1,h2,h3,h4⟩;exact ⟨rfl,qh ⟨Y,hF.but hC hD hv hg hr.free h2 h1,h3,h4⟩⟩
 have k10:W.cell? ⟨WB,10,none⟩=some v:=CF rfl hv;obtain ⟨ao,c,rfl⟩:=hr.form;have hL:=qh hQ;have hM:=qh hB;have hO:=qh CS;clear hQ hB CS hF hv hr;unfold tail10 code10
 conv=>arg 4;whnf
 gi_wp2_with fail;refine ⟨trivial,?_⟩;refine (callsIn_wide.2 hO.out).mono ?_;rintro e W1 ⟨rfl,h1⟩;obtain ⟨Y,hF,hI,hJ⟩:=h1.out;have hP:=qh hF;have hG:=qh hI;have hH:=qh hJ;obtain ⟨v,hv,hr⟩:=hF.row;obtain ⟨ao,c,rfl⟩:=hr.form;have k11:W1.cell? ⟨WB,10,none⟩=some (.slice ao N c):=CF rfl hv;clear k10 h1 hF hI hJ hv hr;gi_wp2_with fail;gi_loopw [115] (λjv wq=>∃i:Nat,jv=int i64 i∧i≤N∧Hid (FinW V0 Ds WB EB #[w0,w1,w2,w3,w4,w5,w6,w7,w8,w9] N (Ez Y i) wq)) (λjv _=>N+1-(intOf jv).toNat)
 case atStart=>exact ⟨0,rfl,Nat.zero_le _,qh (by
  have e:Ez Y 0=Y:=funext λq=>by simp [Ez]
  rw [e];exact hP.out)⟩
 case round =>
  obtain ⟨i,rfl,ha,hF⟩:=hrel;obtain ⟨v,hv,hr⟩:=hF.out.row;by_cases hi:i<N
  ·rcases hr with ⟨h0,_⟩|⟨g,cap,rfl,hg,hr⟩
   ·omega
   have hR:((i:Nat):Int)<(N:Int):=by omega
   have k12:wr.cell? ⟨WB,10,none⟩=some (.slice (some ⟨g,0,none⟩) N cap):=CF rfl hv
   have kc:wr.cell? ⟨g,i*14,none⟩=some (int i64 (Ez Y i i).id):=by
    have:=hr.at_ i hi 0 _ rfl;simpa using this
   have kf:wr.frozen? ⟨g,i*14,none⟩=false:=hr.free.free _;have hA:=hr.putId hi (i:Int)
   have hK:(λq=>if q=i then { Ez Y i i with id:=(i:Int) } else Ez Y i q)=Ez Y (i+1):=by
    funext q
    unfold Ez;by_cases h1:q=i
    ·subst h1;simp
    ·by_cases h2:q<i
     ·simp [h1,h2,Nat.lt_succ_of_lt h2]
     ·simp [h1,h2,show ¬q<i+1 by omega]
   rw [hK] at hA;have hn:FinW V0 Ds WB EB #[w0,w1,w2,w3,w4,w5,w6,w7,w8,w9] N (Ez Y (i+1)) (wr.setCell ⟨g,i*14,none⟩ (int i64 (i:Int))):=hF.out.but hC hD hv hg hr.free ⟨rfl,rfl,rfl,by simp [World.setCell],λb _ hT=>Below.heap_setCell _ _ _ _ hT⟩ hA;have hU:=qh hn;clear hv hr hA hK hn hF k11;gi_wp2_with fail;refine ⟨⟨i+1,by go_num,by omega,hU⟩,by simp [intOf];omega⟩
  ·obtain rfl:i=N:=by omega
   have hR:¬((i:Nat):Int)<(i:Int):=by omega
   obtain ⟨ao,c,rfl⟩:=hr.form;have y0:wr.cell? ⟨WB,0,none⟩=some w0:=Aa hv 0 rfl;have y1:wr.cell? ⟨WB,1,none⟩=some w1:=Aa hv 1 rfl;have y2:wr.cell? ⟨WB,2,none⟩=some w2:=Aa hv 2 rfl;have y3:wr.cell? ⟨WB,3,none⟩=some w3:=Aa hv 3 rfl;have y4:wr.cell? ⟨WB,4,none⟩=some w4:=Aa hv 4 rfl;have y5:wr.cell? ⟨WB,5,none⟩=some w5:=Aa hv 5 rfl;have y6:wr.cell? ⟨WB,6,none⟩=some w6:=Aa hv 6 rfl;have y7:wr.cell? ⟨WB,7,none⟩=some w7:=Aa hv 7 rfl;have y8:wr.cell? ⟨WB,8,none⟩=some w8:=Aa hv 8 rfl;have y9:wr.cell? ⟨WB,9,none⟩=some w9:=Aa hv 9 rfl;have k12:wr.cell? ⟨WB,10,none⟩=some (.slice ao i c):=CF rfl hv;have hV:=qh (hF.out.fill hC hD hv hr);have ex:(wr.setRow WB #[w0,w1,w2,w3,w4,w5,w6,w7,w8,w9,.slice ao i c]).cell? ⟨EB,0,none⟩=some (int i64 0):=Aa ((setRow_other wr WB EB _ (B6 hF.out.eb hv (by decide))).trans hF.out.eb) 0 rfl;have ey:(wr.setRow WB #[w0,w1,w2,w3,w4,w5,w6,w7,w8,w9,.slice ao i c]).frozen? ⟨EB,0,none⟩=false:=by simp [World.frozen?,(setRow_other wr WB EB #[w0,w1,w2,w3,w4,w5,w6,w7,w8,w9,.slice ao i c] (B6 hF.out.eb hv (by decide))).trans hF.out.eb]
   have hW:=qh ex;have hY:=qh ey;have hZ:=qh hv;clear ex ey hv hr k11
   gi_wp2_with (refine BM rfl 39 _ _ rfl WB #[w0,w1,w2,w3,w4,w5,w6,w7,w8,w9,.slice ao i c] rfl rfl 39 _ hZ.out (by kernel_rfl) rfl (hM.out _ rfl) ?_;clear k12 y0 y1 y2 y3 y4 y5 y6 y7 y8 y9;have ex:=hW.out;have ey:=hY.out);exact hL.out _ Y _ rfl rfl hV.out hG.out hH.out
end
end
section
open Go Go.RowKit Go.Shelf Go.Deep
def _root_.Go.Code.rgOf(id:Nat):Code→Option Code
 | .region i o d=>if i=id then some (.region i o d) else none
 | .block _ c=>c.rgOf id
 | .rangeFunc _ _ _ b=>b.rgOf id
 | .seq x y=>(x.rgOf id).orElse λ_=>y.rgOf id
 | .cond _ x y=>(x.rgOf id).orElse λ_=>y.rgOf id
 | .loop c=>c.rgOf id
 | _=>none
theorem CG{α:Type}{enc:α→List Value}{k:Nat}(hk:∀x,(enc x).length=k){w:World}{ao:Option Addr}{c:Nat}{xs:List α}(h:IsRow enc k w (.slice ao xs.length c) xs) :
  (ao=none→xs.length=0)∧∀a,ao=some a→∀j u,(xs.flatMap enc)[j]?=some u→w.cell? (a.add j)=some u:=by
 obtain ⟨ao',c',e,_,h⟩:=h;injection e with e1 e2 e3;subst e1;rcases h with rfl|⟨b,o,rfl,hA,_⟩
 ·exact ⟨λ_=>rfl,λa _ j u hj=>by simp at hj⟩
 ·refine ⟨λe=>(by cases e),λa ha j u hj=>?_⟩
  cases ha;rw [Addr.add_mid];exact (Ei hk).1 hA j u hj
theorem Fh{α:Type}{enc:α→List Value}{k:Nat}(hk:∀x,(enc x).length=k)(xs:List α):(xs.flatMap enc).length=xs.length*k:=by
 induction xs with
 | nil=>simp
 | cons x r ih=>rw [List.flatMap_cons,List.length_append,ih,hk,List.length_cons,Nat.succ_mul,Nat.add_comm]
noncomputable def reg6:Code:=(code10.rgOf 6).getD .skip
theorem UE(s:Ls)(W:World)(SX WB EB:Nat)(hA:s.At W)(hn:s.roles.length≤100000)(hL:W.heap[SX]?=some (.cells s.cells 30 (0,0)))(hW:W.heap[WB]?=some (.cells wkZ 39 (0,0)))(Q:Exit→Act→World→Prop)(hD:∀(ch:List PanicEntry) (a:Act) (d:Option Go.Tmp) (v:Value) (W':World),Q (.panic ch) (a.put d v) W'→Q (.panic ch) a W')
  (hQ:∀(W':World) (ao:Option Addr) (c:Nat) (g24 g25 g26 g27 g28 g29 g30 g31:Value),W'.heap[WB]?=some (.cells #[int i64 s.wd,int i64 s.dp,int i64 0,int i64 0,int i64 0,.slice ao s.roles.length c,int i64 0,.slice none 0 0,.slice none 0 0,.slice none 0 0,.slice none 0 0] 39 (0,0))→W'.ownsRow W.heap.size 73 4 (.slice ao s.roles.length c) s.roles.length (s.roles.flatMap CT)→ButOne WB W W'→Q .normal { tmps:=#[e0,.pointer (some ⟨SX,0,none⟩),.pointer (some ⟨WB,0,none⟩),.pointer (some ⟨EB,0,none⟩),e4,e5,e6,e7,e8,e9,ea,eb,ec,ed,ee,ef,eg,eh,ei,ej,ek,el,em,en,g24,g25,g26,g27,g28,g29,g30,g31,ew,ex,ey,ez,eA,eB,eC,eD,eE,eF,eG,eH,eI,eJ,eK,eL,eM,eN,eO,eP,eQ,eR,eS,eT,eU,eV,eW,eX,eY,eZ,aa,ab,ac,ae,af,ag,ah,ai,aj,ak,al,am,an,ap,aq,ar,au,av,aw,ax,ay,az,aA,aB,aC,aD,aE,aF,aG,aH,aI,aJ,aK,aL,aM,aN,aO,aP,aQ,aR,aS,aT,aU,aV,aW,aX,aY,aZ,ba,bb,bc,bd,be,bf,bg,bh,bi,bj,bk,bl,bm,bn,bo,bp],defers:=[] } W') :
  reg6.wp Tryz.prog Q { tmps:=#[e0,.pointer (some ⟨SX,0,none⟩),.pointer (some ⟨WB,0,none⟩),.pointer (some ⟨EB,0,none⟩),e4,e5,e6,e7,e8,e9,ea,eb,ec,ed,ee,ef,eg,eh,ei,ej,ek,el,em,en,eo,ep,eq,er,es,et,eu,ev,ew,ex,ey,ez,eA,eB,eC,eD,eE,eF,eG,eH,eI,eJ,eK,eL,eM,eN,eO,eP,eQ,eR,eS,eT,eU,eV,eW,eX,eY,eZ,aa,ab,ac,ae,af,ag,ah,ai,aj,ak,al,am,an,ap,aq,ar,au,av,aw,ax,ay,az,aA,aB,aC,aD,aE,aF,aG,aH,aI,aJ,aK,aL,aM,aN,aO,aP,aQ,aR,aS,aT,aU,aV,aW,aX,aY,aZ,ba,bb,bc,bd,be,bf,bg,bh,bi,bj,bk,bl,bm,bn,bo,bp],defers:=[] } W:=by
 obtain ⟨r1,r2⟩:=CG (enc:=CT) (k:=4) (λ_=>rfl) hA.roles
 have CL:=OJ s.ra s.roles.length s.rc (s.roles.flatMap CT) W.drew (Fh (enc:=CT) (k:=4) (λ_=>rfl) _) hn r1 r2 (by
  intro u hu;obtain ⟨x,_,hx⟩:=List.mem_flatMap.1 hu;simp only [CT,List.mem_cons,List.not_mem_nil,or_false] at hx
  rcases hx with rfl|rfl|rfl|rfl<;>rfl)
 have hO:=qh CL;have hC:Hid (W.drew.heap[SX]?=some (.cells s.cells 30 (0,0))):=qh hL;have hP:=qh hW;have hR:=qh hQ;have hS:=qh (Below.refl W.heap.size W).drew;clear CL r1 r2 hA hL hW hQ;unfold reg6 code10
 conv=>arg 2;whnf
 refine wp_region_held (S:=λV=>V.heap[SX]?=some (.cells s.cells 30 (0,0))) (by kernel_rfl) ?_;change wpAnyH _ _ _ _ _ _ _ _ W.drew;refine tkS (i:=0) (oi:=_) (v:=.pointer (some ⟨SX,1,none⟩)) rfl (by kernel_rfl) (λ_ _ _ h=>hD _ _ _ _ _ h) (λV hb=>by go_simp) hC.out ?_
 try simp only [Act.put,qz]
 refine tkS (i:=1) (oi:=_) (v:=int i64 s.wd) rfl (by kernel_rfl) (λ_ _ _ h=>hD _ _ _ _ _ h) (λV hb=>by have q0:V.cell? ⟨SX,1,none⟩=some (int i64 s.wd):=Aa hb 1 rfl;go_simp) hC.out ?_
 try simp only [Act.put,qz]
 refine tkS (i:=2) (oi:=_) (v:=.pointer (some ⟨SX,2,none⟩)) rfl (by kernel_rfl) (λ_ _ _ h=>hD _ _ _ _ _ h) (λV hb=>by go_simp) hC.out ?_
 try simp only [Act.put,qz]
 refine tkS (i:=3) (oi:=_) (v:=int i64 s.dp) rfl (by kernel_rfl) (λ_ _ _ h=>hD _ _ _ _ _ h) (λV hb=>by have q0:V.cell? ⟨SX,2,none⟩=some (int i64 s.dp):=Aa hb 2 rfl;go_simp) hC.out ?_
 try simp only [Act.put,qz]
 refine tkS (i:=4) (oi:=_) (v:=.pointer (some ⟨SX,6,none⟩)) rfl (by kernel_rfl) (λ_ _ _ h=>hD _ _ _ _ _ h) (λV hb=>by go_simp) hC.out ?_
 try simp only [Act.put,qz]
 refine tkS (i:=5) (oi:=_) (v:=.slice s.ra s.roles.length s.rc) rfl (by kernel_rfl) (λ_ _ _ h=>hD _ _ _ _ _ h) (λV hb=>by have q0:V.cell? ⟨SX,6,none⟩=some (.slice s.ra s.roles.length s.rc):=Aa hb 6 rfl;go_simp) hC.out ?_
 try simp only [Act.put,qz]
 refine tr 6 _ (by kernel_rfl) rfl λK1 hK=>?_
 have hE:=qh hK;clear hK;go_simp;refine hO.out.mono ?_;rintro e V ⟨v1,rfl,hH,hI⟩;obtain ⟨ao1,c1,rfl⟩:=AS hH;have hK:=hE;clear hE;have hT:=qh hH;have hM:=qh (hS.out.trans hI);have hF:V.heap[SX]?=some (.cells s.cells 30 (0,0)):=(hI.block _ (qs.1 hC.out).1).trans hC.out;clear hC hH hI;have hC:=qh hF;clear hF;refine hK.out _ _ hC.out (λ_=>?_);clear hK K1
 try simp only [Act.put,qz]
 refine tkS (i:=7) (oi:=_) (v:=.agg #[int i64 s.wd,int i64 s.dp,int i64 0,int i64 0,int i64 0,.slice ao1 s.roles.length c1,int i64 0,.slice none 0 0,.slice none 0 0,.slice none 0 0,.slice none 0 0]) rfl (by kernel_rfl) (λ_ _ _ h=>hD _ _ _ _ _ h) (λV hb=>by go_simp) hC.out ?_
 try simp only [Act.put,qz]
 refine tr 8 _ (by kernel_rfl) rfl λK1 hK=>?_
 have hE:=qh hK;clear hK;rw [if_pos (by kernel_rfl)];have hG:V.heap[WB]?=some (.cells wkZ 39 (0,0)):=Ah hM.out hP.out;obtain ⟨V2,e2,g2,_⟩:=AO (cs:=#[int i64 s.wd,int i64 s.dp,int i64 0,int i64 0,int i64 0,.slice ao1 s.roles.length c1,int i64 0,.slice none 0 0,.slice none 0 0,.slice none 0 0,.slice none 0 0]) hG (Below.refl 0 V) (Nat.zero_le _);have o2:=λb hU=>setRow_other V WB b #[int i64 s.wd,int i64 s.dp,int i64 0,int i64 0,int i64 0,.slice ao1 s.roles.length c1,int i64 0,.slice none 0 0,.slice none 0 0,.slice none 0 0,.slice none 0 0] hU
 rw [e2] at o2;have hJ:=qh e2;refine wp_store_row 39 _ _ rfl WB #[int i64 s.wd,int i64 s.dp,int i64 0,int i64 0,int i64 0,.slice ao1 s.roles.length c1,int i64 0,.slice none 0 0,.slice none 0 0,.slice none 0 0,.slice none 0 0] rfl rfl 39 _ hG (by kernel_rfl) rfl (by simp [Value.oneCell']) ?_;rw [hJ.out];have hF:V2.heap[SX]?=some (.cells s.cells 30 (0,0)):=(o2 SX (B6 hC.out hG (by decide))).trans hC.out;refine hE.out _ _ hF (λ_=>?_);clear hE K1
 try simp only [Act.put,qz]
 refine wpAnyH_done (by kernel_rfl) ?_ _;refine hR.out V2 ao1 c1 _ _ _ _ _ _ _ _ g2 ?_ ?_
 ·have h1:=hT.out
  refine ⟨h1.1,?_⟩;rcases h1.2 with hn|⟨g,cap,cur,hV,hB,hN,rest⟩
  ·exact Or.inl hn
  ·exact Or.inr ⟨g,cap,cur,hV,hB,(o2 g (B6 hN hG (by decide))).trans hN,rest⟩
 ·have s2:V2.heap.size=V.heap.size:=by rw [← hJ.out];simp [World.setRow]
  have q1:V2.os=V.os∧V2.tape=V.tape∧V2.output=V.output:=by rw [← hJ.out];exact ⟨rfl,rfl,rfl⟩
  have hb:=hM.out;exact ⟨q1.1.trans hb.os,q1.2.1.trans hb.tape,q1.2.2.trans hb.output,by rw [s2];exact hb.size,λb h1 h2=>(o2 b h2).trans (hb.block b h1)⟩
theorem Ia{W:World}{B B' e k n:Nat}{v:Value}{xs:List Value}(hB:B'≤B)(h:W.ownsRow B e k v n xs):W.ownsRow B' e k v n xs :=
 ⟨h.1,h.2.imp id λ⟨g,cap,cur,e,hb,rest⟩=>⟨g,cap,cur,e,Nat.le_trans hB hb,rest⟩⟩
theorem JM{W W':World}{B e k n WB:Nat}{v:Value}{xs:List Value}{cs:Array Value}(h:W.ownsRow B e k v n xs)(hw:W.heap[WB]?=some (.cells cs 39 (0,0)))(he:e≠39)(al:∀b,b≠WB→W'.heap[b]?=W.heap[b]?):W'.ownsRow B e k v n xs :=
 ⟨h.1,h.2.imp id λ⟨g,cap,cur,e,hb,hg,rest⟩=>⟨g,cap,cur,e,hb,(al g (B6 hg hw he)).trans hg,rest⟩⟩
theorem Jk{W:World}{B o n:Nat}{cs:Array Value}{t:TypeId}(h:W.heap[B]?=some (.cells cs t (0,0)))(hn:o+n≤cs.size):W.there B o n:=λj hj =>
 ⟨by rw [Aa h (o+j) (Array.getElem?_eq_getElem (by omega))];rfl,(show FreeB W B from ⟨_,_,h⟩).free _⟩
noncomputable def reg7:Code:=(code10.rgOf 7).getD .skip
theorem UF(s:Ls)(W:World)(SX WB EB:Nat)(w0 w1 w2 w3 w4 w5 w6 w7 w8 w9 w10:Value)(hA:s.At W)(hT:s.tempos.length≤100000)(hV:s.pauses.length≤100000)(hX:s.spans.length≤100000)(hS:W.heap[SX]?=some (.cells s.cells 30 (0,0)))(hW:W.heap[WB]?=some (.cells #[w0,w1,w2,w3,w4,w5,w6,w7,w8,w9,w10] 39 (0,0)))(Q:Exit→Act→World→Prop)(hG:∀(ch:List PanicEntry) (a:Act) (d:Option Go.Tmp) (v:Value) (W':World),Q (.panic ch) (a.put d v) W'→Q (.panic ch) a W')
  (hQ:∀(W':World) (ao0 ao1 ao2:Option Addr) (c0 c1 c2:Nat) (g32 g33 g34 g35 g36 g37 g38 g39 g40 g41 g42 g43 g44:Value),W'.heap[WB]?=some (.cells #[w0,w1,w2,w3,w4,w5,int i64 s.bars,.slice ao0 s.tempos.length c0,.slice ao1 s.pauses.length c1,.slice ao2 s.spans.length c2,w10] 39 (0,0))→W'.ownsRow W.heap.size 76 3 (.slice ao0 s.tempos.length c0) s.tempos.length (s.tempos.flatMap BS)→W'.ownsRow W.heap.size 79 4 (.slice ao1 s.pauses.length c1) s.pauses.length (s.pauses.flatMap Cx)→W'.ownsRow W.heap.size 82 4 (.slice ao2 s.spans.length c2) s.spans.length (s.spans.flatMap Cw)→ButOne WB W W'→Q .normal { tmps:=#[e0,.pointer (some ⟨SX,0,none⟩),.pointer (some ⟨WB,0,none⟩),.pointer (some ⟨EB,0,none⟩),e4,e5,e6,e7,e8,e9,ea,eb,ec,ed,ee,ef,eg,eh,ei,ej,ek,el,em,en,eo,ep,eq,er,es,et,eu,ev,g32,g33,g34,g35,g36,g37,g38,g39,g40,g41,g42,g43,g44,eJ,eK,eL,eM,eN,eO,eP,eQ,eR,eS,eT,eU,eV,eW,eX,eY,eZ,aa,ab,ac,ae,af,ag,ah,ai,aj,ak,am,an,ao,ap,aq,ar,au,av,aw,ax,ay,az,aA,aB,aC,aD,aE,aF,aG,aH,aI,aJ,aK,aL,aM,aN,aO,aP,aQ,aR,aS,aT,aU,aV,aW,aX,aY,aZ,ba,bb,bc,bd,be,bf,bg,bh,bi,bj,bk,bl,bm,bn,bo,bp],defers:=[] } W') :
  reg7.wp Tryz.prog Q { tmps:=#[e0,.pointer (some ⟨SX,0,none⟩),.pointer (some ⟨WB,0,none⟩),.pointer (some ⟨EB,0,none⟩),e4,e5,e6,e7,e8,e9,ea,eb,ec,ed,ee,ef,eg,eh,ei,ej,ek,el,em,en,eo,ep,eq,er,es,et,eu,ev,ew,ex,ey,ez,eA,eB,eC,eD,eE,eF,eG,eH,eI,eJ,eK,eL,eM,eN,eO,eP,eQ,eR,eS,eT,eU,eV,eW,eX,eY,eZ,aa,ab,ac,ae,af,ag,ah,ai,aj,ak,am,an,ao,ap,aq,ar,au,av,aw,ax,ay,az,aA,aB,aC,aD,aE,aF,aG,aH,aI,aJ,aK,aL,aM,aN,aO,aP,aQ,aR,aS,aT,aU,aV,aW,aX,aY,aZ,ba,bb,bc,bd,be,bf,bg,bh,bi,bj,bk,bl,bm,bn,bo,bp],defers:=[] } W:=by
 have hN:=qh λ(V:World) (hb:Below W.heap.size W V)=>OK s.ta s.tempos.length s.tc (s.tempos.flatMap BS) V (Fh (enc:=BS) (k:=3) (λ_=>rfl) _) hT (CG (enc:=BS) (k:=3) (λ_=>rfl) (hA.tempos.below hb (qn _))).1 (CG (enc:=BS) (k:=3) (λ_=>rfl) (hA.tempos.below hb (qn _))).2 (by
  intro u hu;obtain ⟨x,_,hx⟩:=List.mem_flatMap.1 hu;simp only [BS,List.mem_cons,List.not_mem_nil,or_false] at hx
  rcases hx with rfl|rfl|rfl<;>rfl)
 have hO:=qh λ(V:World) (hb:Below W.heap.size W V)=>OL s.ua s.pauses.length s.uc (s.pauses.flatMap Cx) V (Fh (enc:=Cx) (k:=4) (λ_=>rfl) _) hV (CG (enc:=Cx) (k:=4) (λ_=>rfl) (hA.pauses.below hb (qn _))).1 (CG (enc:=Cx) (k:=4) (λ_=>rfl) (hA.pauses.below hb (qn _))).2 (by
  intro u hu;obtain ⟨x,_,hx⟩:=List.mem_flatMap.1 hu;simp only [Cx,List.mem_cons,List.not_mem_nil,or_false] at hx
  rcases hx with rfl|rfl|rfl|rfl<;>rfl)
 have hP:=qh λ(V:World) (hb:Below W.heap.size W V)=>OM s.sa s.spans.length s.sc (s.spans.flatMap Cw) V (Fh (enc:=Cw) (k:=4) (λ_=>rfl) _) hX (CG (enc:=Cw) (k:=4) (λ_=>rfl) (hA.spans.below hb (qn _))).1 (CG (enc:=Cw) (k:=4) (λ_=>rfl) (hA.spans.below hb (qn _))).2 (by
  intro u hu;obtain ⟨x,_,hx⟩:=List.mem_flatMap.1 hu;simp only [Cw,List.mem_cons,List.not_mem_nil,or_false] at hx
  rcases hx with rfl|rfl|rfl|rfl<;>rfl)
 have hB:Hid (W.drew.heap[SX]?=some (.cells s.cells 30 (0,0))):=qh hS;have hY:=qh hW;have hZ:=qh hQ;have hC:=qh (Below.refl W.heap.size W).drew;clear hA hS hW hQ;unfold reg7 code10
 conv=>arg 2;whnf
 refine wp_region_held (S:=λV=>V.heap[SX]?=some (.cells s.cells 30 (0,0))) (by kernel_rfl) ?_;change wpAnyH _ _ _ _ _ _ _ _ W.drew;refine tkS (i:=0) (oi:=_) (v:=.pointer (some ⟨SX,3,none⟩)) rfl (by kernel_rfl) (λ_ _ _ h=>hG _ _ _ _ _ h) (λV hb=>by go_simp) hB.out ?_
 try simp only [Act.put,qz]
 refine tkS (i:=1) (oi:=_) (v:=int i64 s.bars) rfl (by kernel_rfl) (λ_ _ _ h=>hG _ _ _ _ _ h) (λV hb=>by have q0:V.cell? ⟨SX,3,none⟩=some (int i64 s.bars):=Aa hb 3 rfl;go_simp) hB.out ?_
 try simp only [Act.put,qz]
 refine tkS (i:=2) (oi:=_) (v:=.pointer (some ⟨SX,7,none⟩)) rfl (by kernel_rfl) (λ_ _ _ h=>hG _ _ _ _ _ h) (λV hb=>by go_simp) hB.out ?_
 try simp only [Act.put,qz]
 refine tkS (i:=3) (oi:=_) (v:=.slice s.ta s.tempos.length s.tc) rfl (by kernel_rfl) (λ_ _ _ h=>hG _ _ _ _ _ h) (λV hb=>by have q0:V.cell? ⟨SX,7,none⟩=some (.slice s.ta s.tempos.length s.tc):=Aa hb 7 rfl;go_simp) hB.out ?_
 try simp only [Act.put,qz]
 refine tkS (i:=5) (oi:=_) (v:=.pointer (some ⟨SX,8,none⟩)) rfl (by kernel_rfl) (λ_ _ _ h=>hG _ _ _ _ _ h) (λV hb=>by go_simp) hB.out ?_
 try simp only [Act.put,qz]
 refine tkS (i:=6) (oi:=_) (v:=.slice s.ua s.pauses.length s.uc) rfl (by kernel_rfl) (λ_ _ _ h=>hG _ _ _ _ _ h) (λV hb=>by have q0:V.cell? ⟨SX,8,none⟩=some (.slice s.ua s.pauses.length s.uc):=Aa hb 8 rfl;go_simp) hB.out ?_
 try simp only [Act.put,qz]
 refine tkS (i:=8) (oi:=_) (v:=.pointer (some ⟨SX,9,none⟩)) rfl (by kernel_rfl) (λ_ _ _ h=>hG _ _ _ _ _ h) (λV hb=>by go_simp) hB.out ?_
 try simp only [Act.put,qz]
 refine tkS (i:=9) (oi:=_) (v:=.slice s.sa s.spans.length s.sc) rfl (by kernel_rfl) (λ_ _ _ h=>hG _ _ _ _ _ h) (λV hb=>by have q0:V.cell? ⟨SX,9,none⟩=some (.slice s.sa s.spans.length s.sc):=Aa hb 9 rfl;go_simp) hB.out ?_
 try simp only [Act.put,qz]
 refine tr 4 _ (by kernel_rfl) rfl λK1 hK=>?_
 have hE:=qh hK;clear hK;go_simp;refine (hN.out _ hC.out).mono ?_;rintro e V0 ⟨v1,rfl,hF,hD⟩;obtain ⟨ao0,c0,rfl⟩:=AS hF;have hK:=hE;clear hE;have hL:=qh (Ia hC.out.size hF);have hH:V0.heap[SX]?=some (.cells s.cells 30 (0,0)):=(hD.block _ (qs.1 hB.out).1).trans hB.out;have hI:=qh (Ag hC.out hD);clear hB hF hD hC;have hC:=hI;have hB:=qh hH;clear hH hI;refine hK.out _ _ hB.out (λ_=>?_);clear hK K1
 try simp only [Act.put,qz]
 refine tr 7 _ (by kernel_rfl) rfl λK1 hK=>?_
 have hE:=qh hK;clear hK;go_simp;refine (hO.out _ hC.out).mono ?_;rintro e V1 ⟨v1,rfl,hF,hD⟩;obtain ⟨ao1,c1,rfl⟩:=AS hF;have hK:=hE;clear hE;have hR:=qh (Ia hC.out.size hF);have hH:V1.heap[SX]?=some (.cells s.cells 30 (0,0)):=(hD.block _ (qs.1 hB.out).1).trans hB.out;have hI:=qh (Ag hC.out hD);have hL:=qh (B9 hL.out hD);clear hB hF hD hC;have hC:=hI;have hB:=qh hH;clear hH hI;refine hK.out _ _ hB.out (λ_=>?_);clear hK K1
 try simp only [Act.put,qz]
 refine tr 10 _ (by kernel_rfl) rfl λK1 hK=>?_
 have hE:=qh hK;clear hK;go_simp;refine (hP.out _ hC.out).mono ?_;rintro e V2 ⟨v1,rfl,hF,hD⟩;obtain ⟨ao2,c2,rfl⟩:=AS hF;have hK:=hE;clear hE;have ha:=qh (Ia hC.out.size hF);have hH:V2.heap[SX]?=some (.cells s.cells 30 (0,0)):=(hD.block _ (qs.1 hB.out).1).trans hB.out;have hI:=qh (Ag hC.out hD);have hL:=qh (B9 hL.out hD);have hR:=qh (B9 hR.out hD);clear hB hF hD hC;have hC:=hI;have hB:=qh hH;clear hH hI;refine hK.out _ _ hB.out (λ_=>?_);clear hK K1
 try simp only [Act.put,qz]
 refine tkS (i:=11) (oi:=_) (v:=.agg #[int i64 s.bars,.slice ao0 s.tempos.length c0,.slice ao1 s.pauses.length c1,.slice ao2 s.spans.length c2]) rfl (by kernel_rfl) (λ_ _ _ h=>hG _ _ _ _ _ h) (λV hb=>by go_simp) hB.out ?_
 try simp only [Act.put,qz]
 refine tkS (i:=12) (oi:=_) (v:=.pointer (some ⟨WB,6,none⟩)) rfl (by kernel_rfl) (λ_ _ _ h=>hG _ _ _ _ _ h) (λV hb=>by go_simp) hB.out ?_
 try simp only [Act.put,qz]
 refine tr 13 _ (by kernel_rfl) rfl λK1 hK=>?_
 have hE:=qh hK;clear hK;rw [if_pos (by kernel_rfl)];have hJ:V2.heap[WB]?=some (.cells #[w0,w1,w2,w3,w4,w5,w6,w7,w8,w9,w10] 39 (0,0)):=Ah hC.out hY.out;obtain ⟨U0,e0U,g0U,o0U,b0U,_,_⟩:=CH (i:=6) (v:=int i64 s.bars) (cs':=#[w0,w1,w2,w3,w4,w5,int i64 s.bars,w7,w8,w9,w10]) hJ rfl rfl;obtain ⟨U1,e1U,g1U,o1U,b1U,_,_⟩:=CH (i:=7) (v:=.slice ao0 s.tempos.length c0) (cs':=#[w0,w1,w2,w3,w4,w5,int i64 s.bars,.slice ao0 s.tempos.length c0,w8,w9,w10]) g0U rfl rfl;obtain ⟨U2,e2U,g2U,o2U,b2U,_,_⟩:=CH (i:=8) (v:=.slice ao1 s.pauses.length c1) (cs':=#[w0,w1,w2,w3,w4,w5,int i64 s.bars,.slice ao0 s.tempos.length c0,.slice ao1 s.pauses.length c1,w9,w10]) g1U rfl rfl;obtain ⟨U3,e3U,g3U,o3U,b3U,_,_⟩:=CH (i:=9) (v:=.slice ao2 s.spans.length c2) (cs':=#[w0,w1,w2,w3,w4,w5,int i64 s.bars,.slice ao0 s.tempos.length c0,.slice ao1 s.pauses.length c1,.slice ao2 s.spans.length c2,w10]) g2U rfl rfl;have hU:V2.setCells WB 6 [int i64 s.bars,.slice ao0 s.tempos.length c0,.slice ao1 s.pauses.length c1,.slice ao2 s.spans.length c2]=U3:=by simp only [World.setCells];rw [e0U,e1U,e2U,e3U]
 have al:∀b,b≠WB→U3.heap[b]?=V2.heap[b]?:=λb hb=>(o3U b hb).trans ((o2U b hb).trans ((o1U b hb).trans (o0U b hb)))
 have hM:Below 0 V2 U3:=(b0U 0 (Nat.zero_le _)).trans ((b1U 0 (Nat.zero_le _)).trans ((b2U 0 (Nat.zero_le _)).trans (b3U 0 (Nat.zero_le _))));refine wp_store_mid 36 _ _ rfl WB 6 #[int i64 s.bars,.slice ao0 s.tempos.length c0,.slice ao1 s.pauses.length c1,.slice ao2 s.spans.length c2] rfl rfl (Jk hJ (by simp)) (by kernel_rfl) (by simp [Value.oneCell']) ?_;have hH:U3.heap[SX]?=some (.cells s.cells 30 (0,0)):=(al SX (B6 hB.out hJ (by decide))).trans hB.out;rw [show V2.setCells WB 6 (Array.toList #[int i64 s.bars,.slice ao0 s.tempos.length c0,.slice ao1 s.pauses.length c1,.slice ao2 s.spans.length c2])=U3 from hU];refine hE.out _ _ hH (λ_=>?_);clear hE K1
 try simp only [Act.put,qz]
 refine wpAnyH_done (by kernel_rfl) ?_ _;refine hZ.out U3 ao0 ao1 ao2 c0 c1 c2 _ _ _ _ _ _ _ _ _ _ _ _ _ g3U (JM hL.out hJ (by decide) al) (JM hR.out hJ (by decide) al) (JM ha.out hJ (by decide) al) ?_;have hb:=hC.out;exact ⟨hM.os.trans hb.os,hM.tape.trans hb.tape,hM.output.trans hb.output,Nat.le_trans hb.size hM.size,λb h1 h2=>(al b h2).trans (hb.block b h1)⟩
end
section
open Go Go.RowKit Go.Shelf Go.Deep
theorem O6(tmps:Array Value)(w:World)(WB EB:Nat)(w0 w1 w2 w3 w4 w5 w6 w7 w8 w9 w10:Value)(err:Int)(h2:tmps.getD 2 undef=.pointer (some ⟨WB,0,none⟩))(h3:tmps.getD 3 undef=.pointer (some ⟨EB,0,none⟩))(gW:w.heap[WB]?=some (.cells #[w0,w1,w2,w3,w4,w5,w6,w7,w8,w9,w10] 39 (0,0)))(gE:w.heap[EB]?=some (.cells #[int i64 err] 40 (0,0))) :
  (results Tryz.f11 tmps).run Tryz.prog w=.ok (.tuple #[.agg #[w0,w1,w2,w3,w4,w5,w6,w7,w8,w9,w10],int i64 err]) w:=by
 have hA:tmps[2]?.getD undef=.pointer (some ⟨WB,0,none⟩):=by simpa using h2
 have hB:tmps[3]?.getD undef=.pointer (some ⟨EB,0,none⟩):=by simpa using h3
 have cE:w.cell? ⟨EB,0,none⟩=some (int i64 err):=Aa gE 0 rfl;have y0:w.cell? ⟨WB,0,none⟩=some w0:=Aa gW 0 rfl;have y1:w.cell? ⟨WB,1,none⟩=some w1:=Aa gW 1 rfl;have y2:w.cell? ⟨WB,2,none⟩=some w2:=Aa gW 2 rfl;have y3:w.cell? ⟨WB,3,none⟩=some w3:=Aa gW 3 rfl;have y4:w.cell? ⟨WB,4,none⟩=some w4:=Aa gW 4 rfl;have y5:w.cell? ⟨WB,5,none⟩=some w5:=Aa gW 5 rfl;have y6:w.cell? ⟨WB,6,none⟩=some w6:=Aa gW 6 rfl;have y7:w.cell? ⟨WB,7,none⟩=some w7:=Aa gW 7 rfl;have y8:w.cell? ⟨WB,8,none⟩=some w8:=Aa gW 8 rfl;have y9:w.cell? ⟨WB,9,none⟩=some w9:=Aa gW 9 rfl;have y10:w.cell? ⟨WB,10,none⟩=some w10:=Aa gW 10 rfl;simp [results,hA,hB,cE,y0,y1,y2,y3,y4,y5,y6,y7,y8,y9,y10,go_sem]
theorem Gx{R:Ending→World→Prop}{W:World}{Ds:List Nat}{tmps:Array Value}{WB EB:Nat}{w0 w1 w2 w3 w4 w5 w6 w7 w8 w9 w10:Value}{err:Int}(hm:Ep Ds W)(h2:tmps.getD 2 undef=.pointer (some ⟨WB,0,none⟩))(h3:tmps.getD 3 undef=.pointer (some ⟨EB,0,none⟩))(gW:W.heap[WB]?=some (.cells #[w0,w1,w2,w3,w4,w5,w6,w7,w8,w9,w10] 39 (0,0)))(gE:W.heap[EB]?=some (.cells #[int i64 err] 40 (0,0)))
  (hR:R (.returned (.tuple #[.agg #[w0,w1,w2,w3,w4,w5,w6,w7,w8,w9,w10],int i64 err])) (BQ Ds W)):LeavesInM Fence.wide 20 Tryz.prog Tryz.f11 tmps R (DT Ds) .returning W :=
 Fj Ds W hm ⟨_,O6 tmps _ WB EB w0 w1 w2 w3 w4 w5 w6 w7 w8 w9 w10 err h2 h3 (DX hm gW rfl) (DX hm gE rfl),hR⟩
theorem F6{F:Fence}{n:Nat}{P:Program}{ops:Array Oper}{rest:List Oper}{o:Oper}{a:Act}{w:World}{Q:Exit→Act→World→Prop}(hA:o.guard=none)(ty:TypeId)(x y:Operand)(ho:o.op=.store ty x y)
  (b q:Nat) (cells:Array Value) (hx:a.eval x=.pointer (some ⟨b,q,none⟩)) (hy:a.eval y=.agg cells) (ht:w.there b q cells.size) (hi:(P.info? ty).map (·.size)=some cells.size)
  (h1:cells.all (·.oneCell')=true) (h:wpListIn F n P ops Q rest (a.put o.dst undef) (w.setCells b q cells.toList)):wpListIn F n P ops Q (o::rest) a w:=by
 refine wpListIn_plain hA λK hB=>?_
 unfold Oper.wpIn;refine ⟨by simp [Oper.about,ho],?_⟩;rw [Oper.semAt_plain F _ _ (by rw [ho];intro c hC;cases hC)];unfold execOp;simp only [ho,hx,hy,Instr.storeAt,Instr.sureAddr,Sem.run_bind,Sem.run_pure,Result.andThen_ok,run_storeVar_mid w b q ty cells ht hi h1];exact hB _ _ h
theorem Rw{W W':World}{B e k n WB:Nat}{v:Value}{xs:List Value}{cs:Array Value}(h:W.ownsRow B e k v n xs)(hw:W.heap[WB]?=some (.cells cs 39 (0,0)))(he:e≠39)(hb:ButOne WB W W'):W'.ownsRow B e k v n xs :=
 ⟨h.1,h.2.imp id λ⟨g,cap,cur,e,hB,hg,rest⟩=>⟨g,cap,cur,e,hB,(hb.block g (qs.1 hg).1 (B6 hg hw he)).trans hg,rest⟩⟩
theorem GC{W W':World}{B e k n WB EB:Nat}{v:Value}{xs:List Value}(h:W.ownsRow B e k v n xs)(al:∀b,b≠WB→b≠EB→W'.heap[b]?=W.heap[b]?)(h1:WB<B)(h2:EB<B):W'.ownsRow B e k v n xs :=
 ⟨h.1,h.2.imp id λ⟨g,cap,cur,e,hB,hg,rest⟩=>⟨g,cap,cur,e,hB,(al g (by omega) (by omega)).trans hg,rest⟩⟩
theorem GB{V W':World}{Ds:List Nat}{B e k n WB EB:Nat}{v:Value}{xs:List Value}(h:V.ownsRow B e k v n xs)(hV:∀b,b<V.heap.size→b≠WB→b≠EB→W'.heap[b]?=V.heap[b]?)(h1:WB<B)(h2:EB<B)(hm:Ep Ds W'):(BQ Ds W').ownsRow B e k v n xs :=
 ⟨h.1,h.2.imp id λ⟨g,cap,cur,e,hB,hg,rest⟩=>⟨g,cap,cur,e,hB,DX hm ((hV g (qs.1 hg).1 (by omega) (by omega)).trans hg) rfl,rest⟩⟩
structure ExOk(g:Nm→Int)(s:Ls)(f:Nm→Int)(len:Int→Int)(rk:Nat→Nat)(Bf:Int→List BarR)(w0:World)(ds:List DnX)(fb fo:Nat):Prop where
 at_:s.At w0
 num:NumAt f w0 (Ar s.phrases)
 bar:BarOk s f rk len Bf
 pn:s.phrases.length≤1000
 dl:ds.length=s.dances.length
 df:ds=[]∨s.da=some ⟨fb,fo,none⟩
 dn:s.dances.length≤1000000
 ok:∀(i:Nat) (x:DnX),ds[i]?=some x→DnOk g s Bf w0 fb (fo+i*6) x
 rl:s.roles.length≤100000
 tl:s.tempos.length≤100000
 ul:s.pauses.length≤100000
 sl:s.spans.length≤100000
 t0:0≤s.t0∧s.t0≤127
 t1:0≤s.t1∧s.t1≤127
def Vc(s:Ls)(raw:List Sgn)(w:World)(e:Ending)(w':World):Prop :=
 Below w.heap.size w w'∧((4096<raw.length∧e=.returned (.tuple #[.agg wkZ,int i64 2])) ∨
  ∃(ra a0 a1 a2:Option Addr) (rc c0 c1 c2:Nat) (v:Value) (Y:Nat→Sgn),raw.length≤4096∧e=.returned (.tuple #[.agg #[int i64 s.wd,int i64 s.dp,int i64 (mkA s.t0 s.t1),int i64 (mkB s.t0 s.t1),int i64 (mkC s.t0 s.t1),.slice ra s.roles.length rc,int i64 s.bars,.slice a0 s.tempos.length c0,.slice a1 s.pauses.length c1,.slice a2 s.spans.length c2,v],int i64 0]) ∧
   IsRow CT 4 w' (.slice ra s.roles.length rc) s.roles∧IsRow BS 3 w' (.slice a0 s.tempos.length c0) s.tempos∧IsRow Cx 4 w' (.slice a1 s.pauses.length c1) s.pauses∧IsRow Cw 4 w' (.slice a2 s.spans.length c2) s.spans ∧
   SgnRow w.heap.size w' v raw.length (Ez Y raw.length)∧Stb C4 (ixS raw) Y 0 raw.length∧Srt C4 Y 0 raw.length)
section
attribute [local go_sem] Oper.semAt_some
theorem LO(g:Nm→Int)(s:Ls)(ns:List Int)(f:Nm→Int)(len:Int→Int)(rk:Nat→Nat)(Bf:Int→List BarR)(ds:List DnX)(fb fo:Nat)(w:World)(hX:ExOk g s f len rk Bf w ds fb fo)(hN:NsAt w s.refs ns)(he:Env w)(hs:B5 s ns=0)(hr:s.roles≠[])(ht:¬(s.t0=0∧s.t1=0)) :
  Calls Tryz.prog 11 #[s.val] w (Vc s (ds.flatMap λx=>x.sgs g Bf) w):=by
 obtain ⟨V1,e1,g1,b1,s1⟩:=Af w s.cells 30;obtain ⟨V2,e2,g2,b2,s2⟩:=Af V1 wkZ 39;obtain ⟨V3,e3,g3,b3,s3⟩:=Af V2 #[int i64 0] 40;obtain ⟨SX,h9⟩:∃X,w.heap.size=X:=⟨_,rfl⟩;obtain ⟨WB,HA⟩:∃X,V1.heap.size=X:=⟨_,rfl⟩;obtain ⟨EB,HB⟩:∃X,V2.heap.size=X:=⟨_,rfl⟩;rw [h9] at g1;rw [HA] at g2;rw [HB] at g3;have b03:Below w.heap.size w V3:=Ag b1 (Ag b2 b3);have gS:=Ah b3 (Ah b2 g1);have gW:=Ah b3 g2;have CS:=FQ s ns V3 (hX.at_.below b03) (hN.below b03) (he.below b03);have hG:SX=w.heap.size∧w.heap.size<WB∧WB<EB∧EB<V3.heap.size:=by omega
 have hH:=qh gS;have HC:=qh gW;have HD:=qh g3;have HE:=qh b03;have HF:=qh CS;have hC:=qh hX;have hB:=qh hG;have HG:=qh hs
 have HH:((s.roles.length:Nat):Int)≠0:=by
  have:s.roles.length≠0:=λh=>hr (List.length_eq_zero_iff.1 h)
  omega
 have ha:(s.roles.length==0)=false:=by
  have:s.roles.length≠0:=λh=>hr (List.length_eq_zero_iff.1 h)
  simpa using this
 clear g1 g2 g3 b1 b2 b3 s1 s2 s3 b03 CS hX hN he hG;unfold wkZ at e2;unfold Ls.cells at e1;have z0:V3.cell? ⟨SX,0,none⟩=some (sv s.name):=Aa gS 0 rfl;have z1:V3.cell? ⟨SX,1,none⟩=some (int i64 s.wd):=Aa gS 1 rfl;have z2:V3.cell? ⟨SX,2,none⟩=some (int i64 s.dp):=Aa gS 2 rfl;have z3:V3.cell? ⟨SX,3,none⟩=some (int i64 s.bars):=Aa gS 3 rfl;have z4:V3.cell? ⟨SX,4,none⟩=some (int i64 s.t0):=Aa gS 4 rfl;have z5:V3.cell? ⟨SX,5,none⟩=some (int i64 s.t1):=Aa gS 5 rfl;have z6:V3.cell? ⟨SX,6,none⟩=some (.slice s.ra s.roles.length s.rc):=Aa gS 6 rfl;have z7:V3.cell? ⟨SX,7,none⟩=some (.slice s.ta s.tempos.length s.tc):=Aa gS 7 rfl;have z8:V3.cell? ⟨SX,8,none⟩=some (.slice s.ua s.pauses.length s.uc):=Aa gS 8 rfl;have z9:V3.cell? ⟨SX,9,none⟩=some (.slice s.sa s.spans.length s.sc):=Aa gS 9 rfl;have za:V3.cell? ⟨SX,10,none⟩=some (.slice s.fa s.phrases.length s.fc):=Aa gS 10 rfl;have zb:V3.cell? ⟨SX,11,none⟩=some (.slice s.da s.dances.length s.dc):=Aa gS 11 rfl;clear gS gW;refine (callsIn_wide (n:=20)).1 ?_;refine callsIn_of_wp_marks Tryz.func11 rfl trivial ?_ rfl;simp only [Tryz.ntmps11,List.size_toArray,List.length_cons,List.length_nil,Nat.reduceAdd,Nat.reduceSub,Array.replicate_succ,Array.replicate_zero,List.push_toArray,List.append_toArray,List.nil_append,List.cons_append];change Code.wpIn _ _ _ (Dl 7 code10 tail10) _ _ _
 conv=>arg 4;whnf
 have hv:s.val=.agg s.cells:=rfl;rw [hv];unfold Ls.cells;gi_wp2_with fail
 conv=>arg 4;whnf
 gi_wp2_with fail;refine ⟨trivial,?_⟩;refine (callsIn_wide.2 HF.out).mono ?_;rintro e V4 ⟨rfl,hM⟩;rw [HG.out];have hA:=hM;have x0:V4.cell? ⟨SX,0,none⟩=some (sv s.name):=Aa (Ah hA hH.out) 0 rfl;have x1:V4.cell? ⟨SX,1,none⟩=some (int i64 s.wd):=Aa (Ah hA hH.out) 1 rfl;have x2:V4.cell? ⟨SX,2,none⟩=some (int i64 s.dp):=Aa (Ah hA hH.out) 2 rfl;have x3:V4.cell? ⟨SX,3,none⟩=some (int i64 s.bars):=Aa (Ah hA hH.out) 3 rfl;have x4:V4.cell? ⟨SX,4,none⟩=some (int i64 s.t0):=Aa (Ah hA hH.out) 4 rfl;have x5:V4.cell? ⟨SX,5,none⟩=some (int i64 s.t1):=Aa (Ah hA hH.out) 5 rfl;have x6:V4.cell? ⟨SX,6,none⟩=some (.slice s.ra s.roles.length s.rc):=Aa (Ah hA hH.out) 6 rfl;have x7:V4.cell? ⟨SX,7,none⟩=some (.slice s.ta s.tempos.length s.tc):=Aa (Ah hA hH.out) 7 rfl;have x8:V4.cell? ⟨SX,8,none⟩=some (.slice s.ua s.pauses.length s.uc):=Aa (Ah hA hH.out) 8 rfl;have x9:V4.cell? ⟨SX,9,none⟩=some (.slice s.sa s.spans.length s.sc):=Aa (Ah hA hH.out) 9 rfl;have xa:V4.cell? ⟨SX,10,none⟩=some (.slice s.fa s.phrases.length s.fc):=Aa (Ah hA hH.out) 10 rfl;have xb:V4.cell? ⟨SX,11,none⟩=some (.slice s.da s.dances.length s.dc):=Aa (Ah hA hH.out) 11 rfl;have gW4:=Ah hM HC.out;have gE4:=Ah hM HD.out;have hP:=qh (Ah hM hH.out);have hd:=qh gW4;have hQ:=qh gE4;have hf:=qh (Ag HE.out hM);clear z0 z1 z2 z3 z4 z5 z6 z7 z8 z9 za zb hM hA gW4 gE4;gi_wp2_with fail
 conv=>arg 4;whnf
 gi_wp2_with fail
 conv=>arg 4;whnf
 apply wpIn_seq_k;intro K1 hJ;refine wpIn_wide.2 ?_;refine wp_mono (Q:=Exit.then K1 (λ_ _ _=>False)) ?_ (λe a w h=>by cases e<;>first|exact h|exact h.elim);change Code.wp _ reg6 _ _ _;refine UE s V4 SX WB EB (hC.out.at_.below hf.out) hC.out.rl hP.out hd.out _ (λ_ _ _ _ _ h=>h) ?_;intro V5 ra rc g24 g25 g26 g27 g28 g29 g30 g31 hh hq hR;refine hJ _ _ ?_;clear hJ K1
 conv=>arg 4;whnf
 apply wpIn_seq_k;intro K1 hJ;refine wpIn_wide.2 ?_;refine wp_mono (Q:=Exit.then K1 (λ_ _ _=>False)) ?_ (λe a w h=>by cases e<;>first|exact h|exact h.elim);change Code.wp _ reg7 _ _ _;have hZ:Below w.heap.size w V5:=hf.out.trans (hR.below (by have:=hB.out;omega) (by have:=hf.out.size;omega));have gS5:=hR.heap hP.out (by have:=hB.out;omega);have gE5:=hR.heap hQ.out (by have:=hB.out;omega);refine UF s V5 SX WB EB _ _ _ _ _ _ _ _ _ _ _ (hC.out.at_.below hZ) hC.out.tl hC.out.ul hC.out.sl gS5 hh _ (λ_ _ _ _ _ h=>h) ?_;intro V6 a0 a1 a2 c0 c1 c2 g32 g33 g34 g35 g36 g37 g38 g39 g40 g41 g42 g43 g44 hw hx hy hz hO;refine hJ _ _ ?_;clear hJ K1;have h0:Below w.heap.size w V6:=hZ.trans (hO.below (by have:=hB.out;omega) (by have:=hZ.size;omega));have gS6:=hO.heap gS5 (by have:=hB.out;omega);have gE6:=hO.heap gE5 (by have:=hB.out;omega);have hS:=Rw hq hh (by decide) hO;have q4:V6.cell? ⟨SX,4,none⟩=some (int i64 s.t0):=Aa gS6 4 rfl;have q5:V6.cell? ⟨SX,5,none⟩=some (int i64 s.t1):=Aa gS6 5 rfl;have CM:=Py s.t0 s.t1 hC.out.t0 hC.out.t1 V6;unfold Re at CM;rw [if_neg ht] at CM;have HI:V4.heap.size≤V5.heap.size∧V5.heap.size≤V6.heap.size:=⟨hR.size,hO.size⟩;have HJ:EB<V4.heap.size:=(qs.1 hQ.out).1;have HK:=qh CM;have hT:=qh h0;have HL:=qh gS6;have HM:=qh gE6;have HN:=qh hw;have HO:=qh hS;have HP:=qh hx;have HQ:=qh hy;have HR:=qh hz;clear CM h0 gS6 gE6 hw hS hx hy hz hZ gS5 gE5 hq hh hR hO x0 x1 x2 x3 x4 x5 x6 x7 x8 x9 xa xb HH ha
 conv=>arg 4;whnf
 gi_wp2_with fail;refine ⟨trivial,?_⟩;refine (callsIn_wide.2 HK.out).mono ?_;rintro e V7 ⟨rfl,hI⟩;have gW7:=Ah hI HN.out;have gE7:=Ah hI HM.out;obtain ⟨U0,e0U,g0U,o0U,b0U,_,_⟩:=CH (i:=2) (v:=int i64 (mkA s.t0 s.t1)) (cs':=#[int i64 s.wd,int i64 s.dp,int i64 (mkA s.t0 s.t1),int i64 0,int i64 0,.slice ra s.roles.length rc,int i64 s.bars,.slice a0 s.tempos.length c0,.slice a1 s.pauses.length c1,.slice a2 s.spans.length c2,.slice none 0 0]) gW7 rfl rfl;obtain ⟨U1,e1U,g1U,o1U,b1U,_,_⟩:=CH (i:=3) (v:=int i64 (mkB s.t0 s.t1)) (cs':=#[int i64 s.wd,int i64 s.dp,int i64 (mkA s.t0 s.t1),int i64 (mkB s.t0 s.t1),int i64 0,.slice ra s.roles.length rc,int i64 s.bars,.slice a0 s.tempos.length c0,.slice a1 s.pauses.length c1,.slice a2 s.spans.length c2,.slice none 0 0]) g0U rfl rfl;obtain ⟨U2,e2U,g2U,o2U,b2U,_,_⟩:=CH (i:=4) (v:=int i64 (mkC s.t0 s.t1)) (cs':=#[int i64 s.wd,int i64 s.dp,int i64 (mkA s.t0 s.t1),int i64 (mkB s.t0 s.t1),int i64 (mkC s.t0 s.t1),.slice ra s.roles.length rc,int i64 s.bars,.slice a0 s.tempos.length c0,.slice a1 s.pauses.length c1,.slice a2 s.spans.length c2,.slice none 0 0]) g1U rfl rfl;have hU:V7.setCells WB 2 [int i64 (mkA s.t0 s.t1),int i64 (mkB s.t0 s.t1),int i64 (mkC s.t0 s.t1)]=U2:=by simp only [World.setCells];rw [e0U,e1U,e2U]
 have al:∀b,b≠WB→U2.heap[b]?=V7.heap[b]?:=λb hb=>(o2U b hb).trans ((o1U b hb).trans (o0U b hb))
 have gEU:=(al EB (by have:=hB.out;omega)).trans gE7;obtain ⟨V8,e8,g8,o8,b8,s8⟩:=Bp gEU (int i64 0);have q6:U2.cell? ⟨EB,0,none⟩=some (int i64 0):=Aa gEU 0 rfl;have q7:U2.frozen? ⟨EB,0,none⟩=false:=by simp [World.frozen?,gEU]
 have q8:V8.cell? ⟨EB,0,none⟩=some (int i64 0):=Aa g8 0 rfl;have h4:=qh hU;have hV:=qh gW7
 gi_wp2_with (refine F6 rfl 34 _ _ rfl WB 2 #[int i64 (mkA s.t0 s.t1),int i64 (mkB s.t0 s.t1),int i64 (mkC s.t0 s.t1)] rfl rfl (Jk hV.out (by simp)) (by kernel_rfl) (by simp [Value.oneCell']) ?_;rw [show V7.setCells WB 2 (Array.toList #[int i64 (mkA s.t0 s.t1),int i64 (mkB s.t0 s.t1),int i64 (mkC s.t0 s.t1)])=U2 from h4.out]);have hG:=hB.out;have HW:=hI.size;have hE:Below w.heap.size w V8:=b8 _ _ (((hT.out.trans (hI.mono hT.out.size)).trans (b0U _ (by omega))).trans ((b1U _ (by omega)).trans (b2U _ (by omega)))) (by omega);have al8:∀b,b≠WB→b≠EB→V8.heap[b]?=V7.heap[b]?:=λb h1 h2=>(o8 b h2).trans (al b h1)
 have g8W:V8.heap[WB]?=some (.cells #[int i64 s.wd,int i64 s.dp,int i64 (mkA s.t0 s.t1),int i64 (mkB s.t0 s.t1),int i64 (mkC s.t0 s.t1),.slice ra s.roles.length rc,int i64 s.bars,.slice a0 s.tempos.length c0,.slice a1 s.pauses.length c1,.slice a2 s.spans.length c2,.slice none 0 0] 39 (0,0)):=(o8 WB (by omega)).trans g2U;have g8S:V8.heap[SX]?=some (.cells s.cells 30 (0,0)):=(al8 SX (by omega) (by omega)).trans (Ah hI HL.out);have HS:V7.heap.size≤V8.heap.size:=by rw [s8];exact Nat.le_trans (b0U 0 (Nat.zero_le _)).size (Nat.le_trans (b1U 0 (Nat.zero_le _)).size (b2U 0 (Nat.zero_le _)).size)
 have p5:=GC (B9 HO.out hI) al8 (by omega) (by omega);have p6:=GC (B9 HP.out hI) al8 (by omega) (by omega);have p7:=GC (B9 HQ.out hI) al8 (by omega) (by omega);have p8:=GC (B9 HR.out hI) al8 (by omega) (by omega);have HT:GtW V8 [] WB EB #[int i64 s.wd,int i64 s.dp,int i64 (mkA s.t0 s.t1),int i64 (mkB s.t0 s.t1),int i64 (mkC s.t0 s.t1),.slice ra s.roles.length rc,int i64 s.bars,.slice a0 s.tempos.length c0,.slice a1 s.pauses.length c1,.slice a2 s.spans.length c2] [] V8:=⟨rfl,rfl,rfl,qn _,λ_ _ _ _=>rfl,⟨.slice none 0 0,g8W,rfl,Or.inl ⟨rfl,rfl⟩⟩,g8,by simp,by simp⟩;have q11:V8.cell? ⟨SX,11,none⟩=some (.slice s.da s.dances.length s.dc):=Aa g8S 11 rfl;have hW:WB<V8.heap.size:=(qs.1 g8W).1;have hY:EB<V8.heap.size:=(qs.1 g8).1;clear q4 q5 q6 q7 q8 e8 e0U e1U e2U g0U g1U g2U o0U o1U o2U b0U b1U b2U hU gEU gW7 gE7 h4 hV o8 b8 hG
 conv=>arg 4;whnf
 apply wpIn_seq_k;intro K1 hJ;have hj:=qh hJ;clear hJ;apply wpIn_seq_k;intro K2 h5;have h6:=qh h5;clear h5;gi_wp2_with fail;refine h6.out _ _ ?_;clear h6 K2;refine wpIn_block ?_;change Code.wpIn _ _ _ dances10 _ _ _;refine QR g s f len rk Bf w V8 SX WB EB s.dances.length s.dc fb fo s.da #[int i64 s.wd,int i64 s.dp,int i64 (mkA s.t0 s.t1),int i64 (mkB s.t0 s.t1),int i64 (mkC s.t0 s.t1),.slice ra s.roles.length rc,int i64 s.bars,.slice a0 s.tempos.length c0,.slice a1 s.pauses.length c1,.slice a2 s.spans.length c2] ds hC.out.dl hC.out.df hC.out.dn hC.out.at_ hC.out.num hC.out.bar hC.out.pn hC.out.ok rfl HT g8S hE (by have:=hB.out;omega) (by have:=hB.out;omega) hW hY _ ?_ ?_
 ·intro V9 Ds v6 v7 v63 v64 v65 v66 v67 v68 v69 v70 v71 v72 v73 v74 v75 v108 h7 hL hk
  refine hj.out _ _ ?_;change Code.wpIn _ _ _ tail10 _ _ _;refine Qo V8 V9 Ds WB EB _ _ _ _ _ _ _ _ _ _ _ h7 (λv hv=>all_oneCell_toArray (by intro u hu;simp only [List.mem_cons,List.not_mem_nil,or_false] at hu;rcases hu with rfl|rfl|rfl|rfl|rfl|rfl|rfl|rfl|rfl|rfl|rfl<;>first|rfl|exact hv)) hW hY _ ?_;intro W' Y tmps h2 h3 hF HU HV;have hG:=hB.out;obtain ⟨v,gWv,hm⟩:=hF.row;have hK:Ep Ds W':=⟨hL,hF.marks⟩;refine Gx hK h2 h3 gWv hF.eb ⟨?_,Or.inr ⟨ra,a0,a1,a2,rc,c0,c1,c2,v,Y,h7.few,rfl,?_,?_,?_,?_,?_,HU,HV⟩⟩
  ·have hl:Below w.heap.size w W':=⟨hF.os.trans hE.os,hF.tape.trans hE.tape,hF.output.trans hE.output,Nat.le_trans hE.size hF.size,λb ho=>(hF.block b (by have:=hE.size;omega) (by omega) (by omega)).trans (hE.block b ho)⟩
   exact hl.trans (Io λD hD=>Nat.le_trans hE.size (hk D hD))
  ·exact Es (enc:=CT) (xs:=s.roles) (λ_=>rfl) (by have:=hC.out.rl;unfold maxLen;omega) (GB p5 hF.block (by omega) (by omega) hK)
  ·exact Es (enc:=BS) (xs:=s.tempos) (λ_=>rfl) (by have:=hC.out.tl;unfold maxLen;omega) (GB p6 hF.block (by omega) (by omega) hK)
  ·exact Es (enc:=Cx) (xs:=s.pauses) (λ_=>rfl) (by have:=hC.out.ul;unfold maxLen;omega) (GB p7 hF.block (by omega) (by omega) hK)
  ·exact Es (enc:=Cw) (xs:=s.spans) (λ_=>rfl) (by have:=hC.out.sl;unfold maxLen;omega) (GB p8 hF.block (by omega) (by omega) hK)
  ·rcases hm with hn|⟨gg,cap,e,hg,hr⟩
   ·exact Or.inl hn
   ·obtain ⟨cur,t,hc⟩:=hr.free
    have h8:=DX hK hc rfl;exact Or.inr ⟨gg,cap,e,Nat.le_trans hE.size hg,λi hi j u hu=>(World.cell?_of_block (h8.trans hc.symm)).trans (hr.at_ i hi j u hu),⟨cur,t,h8⟩⟩
 ·intro V9 Ds tmps h2 h3 hp hF hL hk
  have hG:=hB.out;have gz:=hF.wb;unfold wkZ at gz;have hK:Ep Ds V9:=⟨hL,hF.marks⟩;refine Gx hK h2 h3 gz hF.eb ⟨?_,Or.inl ⟨hp,rfl⟩⟩;have hl:Below w.heap.size w V9:=⟨hF.os.trans hE.os,hF.tape.trans hE.tape,hF.output.trans hE.output,Nat.le_trans hE.size hF.size,λb ho=>(hF.block b (by have:=hE.size;omega) (by omega) (by omega)).trans (hE.block b ho)⟩;exact hl.trans (Io λD hD=>Nat.le_trans hE.size (hk D hD))
end
end
section
open Go
variable {α:Type} {lt:α→α→Bool}
theorem Df(h:SwO lt)(x:α):eqv lt x x=true:=by simp [eqv,h.irr]
theorem EK(h:SwO lt):∀(l1 l2:List α),l1.Pairwise (λx y=>lt y x=false)→l2.Pairwise (λx y=>lt y x=false)→(∀x,l1.filter (eqv lt x)=l2.filter (eqv lt x))→l1=l2
  | [],[],_,_,_=>rfl
  | [], b :: t2, _, _, hf => by
    have:=hf b;rw [List.filter_cons_of_pos (Df h b)] at this;cases this
  | a :: t1, [], _, _, hf => by
    have:=hf a;rw [List.filter_cons_of_pos (Df h a)] at this;cases this
  | a :: t1, b :: t2, h1, h2, hf => by
    obtain ⟨p1,q1⟩:=List.pairwise_cons.1 h1;obtain ⟨p2,q2⟩:=List.pairwise_cons.1 h2
    have ma:a∈b::t2:=by
      have:a∈(a::t1).filter (eqv lt a):=List.mem_filter.2 ⟨by simp,Df h a⟩;rw [hf a] at this;exact (List.mem_filter.1 this).1
    have mb:b∈a::t1:=by
      have:b∈(b::t2).filter (eqv lt b):=List.mem_filter.2 ⟨by simp,Df h b⟩;rw [← hf b] at this;exact (List.mem_filter.1 this).1
    have e1:lt a b=false:=by
      rcases List.mem_cons.1 ma with rfl|m
      · exact h.irr _
      · exact p2 a m
    have e2:lt b a=false:=by
      rcases List.mem_cons.1 mb with rfl|m
      · exact h.irr _
      · exact p1 b m
    have he:eqv lt a b=true:=by simp [eqv,e1,e2]
    have hA:a=b:=by
      have:=hf a;rw [List.filter_cons_of_pos (Df h a),List.filter_cons_of_pos he] at this;exact (List.cons.inj this).1
    subst hA
    congr 1
    refine EK h t1 t2 q1 q2 λx=>?_
    have:=hf x;by_cases hx:eqv lt x a=true
    · rw [List.filter_cons_of_pos hx, List.filter_cons_of_pos hx] at this
      exact (List.cons.inj this).2
    · rw [List.filter_cons_of_neg hx, List.filter_cons_of_neg hx] at this
      exact this
theorem L3{Y:Nat→α}{N:Nat}(h:Srt lt Y 0 N):(seg Y 0 N).Pairwise (λx y=>lt y x=false):=by
  unfold seg;rw [List.pairwise_map,List.pairwise_iff_getElem];intro i j hi hj hA;simp only [List.length_range'] at hi hj;simp only [List.getElem_range',Nat.zero_add,Nat.one_mul];exact h i j (Nat.zero_le _) (Nat.le_of_lt hA) hj
theorem S4(R:List Sgn):seg (ixS R) 0 R.length=R:=by
  apply List.ext_getElem
  · simp [seg]
  · intro i h1 h2
    simp [seg,ixS,qg h2]
def IL(n:Nat)(R:List Sgn):List Sgn:=(List.range n).flatMap λ(b:Nat)=>R.filter λs=>decide (s.bar=(b:Int))
theorem JC(x y:Sgn):eqv C4 x y=decide (x.bar=y.bar):=by
  unfold eqv C4;rw [Bool.eq_iff_iff];simp only [Bool.and_eq_true,Bool.not_eq_true',decide_eq_false_iff_not,decide_eq_true_eq];omega
theorem Jw{n:Nat}{R:List Sgn}(hR:∀s∈R,0≤s.bar∧s.bar<n)(x:Sgn):(IL n R).filter (eqv C4 x)=R.filter (eqv C4 x):=by
  unfold IL;rw [List.filter_flatMap];simp only [List.filter_filter,JC];by_cases hx:0≤x.bar∧x.bar<n
  · obtain ⟨k, hk⟩ : ∃ k : Nat, x.bar = k := ⟨x.bar.toNat, by omega⟩
    have hA:k<n:=by omega
    have e:List.range n=List.range k++k::List.range' (k+1) (n-k-1):=by
      rw [List.range_eq_range',List.range_eq_range',show n=k+(1+(n-k-1)) by omega,← List.range'_append_1,← List.range'_append_1];simp
    rw [e,List.flatMap_append,List.flatMap_cons]
    have z:∀(l:List Nat),k∉l→(l.flatMap λ(b:Nat)=>R.filter λa=>decide (x.bar=a.bar)&&decide (a.bar=(b:Int)))=[]:=λl hl=>by
      rw [List.flatMap_eq_nil_iff];intro b hb;rw [List.filter_eq_nil_iff];intro a _ h;simp only [Bool.and_eq_true,decide_eq_true_eq] at h
      exact hl (by have : b = k := by omega
                   rw [← this];exact hb)
    rw [z _ (by simp),z _ (by rw [List.mem_range'_1];omega),List.nil_append,List.append_nil];refine List.filter_congr λa _=>?_
    rw [JC,Bool.eq_iff_iff];simp only [Bool.and_eq_true,decide_eq_true_eq];omega
  · have h1:R.filter (eqv C4 x)=[]:=by
      rw [List.filter_eq_nil_iff];intro a ha h;have:=hR a ha;rw [JC] at h;simp only [decide_eq_true_eq] at h;exact hx (by rw [h];exact this)
    rw [h1,List.flatMap_eq_nil_iff];intro b hb;rw [List.filter_eq_nil_iff];intro a ha h;have:=hR a ha;simp only [Bool.and_eq_true,decide_eq_true_eq] at h;exact hx (by rw [h.1];exact this)
theorem Jy(n:Nat)(R:List Sgn):(IL n R).Pairwise (λx y=>C4 y x=false):=by
  unfold IL;rw [List.pairwise_flatMap];refine ⟨λb _=>List.pairwise_iff_forall_sublist.2 λ{x y} hs=>?_,?_⟩
  · have hx := hs.subset (show x ∈ [x, y] by simp)
    have hy:=hs.subset (show y∈[x,y] by simp);have h1:=(List.mem_filter.1 hx).2;have h2:=(List.mem_filter.1 hy).2;simp only [decide_eq_true_eq] at h1 h2;simp only [C4,decide_eq_false_iff_not];omega
  · refine (List.pairwise_lt_range).imp fun {b c} hA x hx y hy => ?_
    have h1:=(List.mem_filter.1 hx).2;have h2:=(List.mem_filter.1 hy).2;simp only [decide_eq_true_eq] at h1 h2;simp only [C4,decide_eq_false_iff_not];omega
theorem L1{n:Nat}{R:List Sgn}{Y:Nat→Sgn}(hR:∀s∈R,0≤s.bar∧s.bar<n)(h1:Stb C4 (ixS R) Y 0 R.length)(h2:Srt C4 Y 0 R.length):seg Y 0 R.length=IL n R :=
  EK IJ _ _ (L3 h2) (Jy n R) λx=>by
    have:=h1.cls x;rw [Nat.sub_zero,S4] at this;rw [this,Jw hR]
end
section
open Go Go.RowKit Go.Shelf Go.Deep
theorem MI{R P:List Nm}{W:World}:∀{xs:List RefL} {ns:List Int},NsAt W xs ns→Ay R P (xs.map RefL.key) ns=some ns→∀x∈xs,∃n,W.cell? ⟨x.b,x.o+1,none⟩=some (int i64 n)∧Bt R P x.key n=some n
 | [],_,_,_,x,hx=>by cases hx
 | y::ys,[],h,_,_,_=>h.elim
 | y::ys,n::ns,⟨h1,h2⟩,hi,x,hx=>by
  simp only [List.map_cons,Ay] at hi
  cases hr:Bt R P y.key n with
  | none=>rw [hr] at hi;cases hi
  | some k =>
   cases hA:Ay R P (ys.map RefL.key) ns with
   | none=>rw [hr,hA] at hi;cases hi
   | some ks =>
    rw [hr,hA] at hi;simp only [Option.some.injEq,List.cons.injEq] at hi;obtain ⟨rfl,rfl⟩:=hi;rcases List.mem_cons.1 hx with rfl|hx
    ·exact ⟨k,h1,hr⟩
    ·exact MI h2 hA x hx
def GW(s:Sc)(nm:Nm):Int:=(s.rnames.idxOf nm:Nat)
def FZ(s:Sc)(W:World)(x:RefL):Prop:=∃n,W.cell? ⟨x.b,x.o+1,none⟩=some (int i64 n)∧Bt s.rnames s.pnames x.key n=some n
theorem IW{s:Sc}{W:World}{x:RefL}(h:FZ s W x)(ht:x.to=1):W.cell? ⟨x.b,x.o+1,none⟩=some (int i64 (GW s x.nm))∧x.nm∈s.rnames:=by
 obtain ⟨n,h1,h2⟩:=h;unfold Bt RefL.key at h2;simp only [ht] at h2;rw [if_neg (by decide),if_pos trivial] at h2
 split at h2
 ·rename_i hm
  cases h2;exact ⟨h1,hm⟩
 ·cases h2
theorem Pg{s:Sc}{W:World}{x:RefL}(h:FZ s W x)(ht:x.to=2):W.cell? ⟨x.b,x.o+1,none⟩=some (int i64 (s.pnames.idxOf x.nm:Nat))∧x.nm∈s.pnames:=by
 obtain ⟨n,h1,h2⟩:=h;unfold Bt RefL.key at h2;simp only [ht] at h2;rw [if_neg (by decide),if_neg (by decide)] at h2
 split at h2
 ·rename_i hm
  cases h2;exact ⟨h1,hm⟩
 ·cases h2
theorem Ns{s:Sc}{W:World}{x:RefL}(h:FZ s W x)(ht:x.to=0):W.cell? ⟨x.b,x.o+1,none⟩=some (int i64 0)∧x.nm=[]:=by
 obtain ⟨n,h1,h2⟩:=h;unfold Bt RefL.key at h2;simp only [ht] at h2;rw [if_pos trivial] at h2
 split at h2
 ·rename_i hm
  cases h2;exact ⟨h1,hm.1⟩
 ·cases h2
theorem Gb(b:Nat):∀(o:Nat) (ms:List Mov) (j:Nat) (m:Mov),ms[j]?=some m→⟨b,o+6+j*12,Dh m.kind,m.wn⟩∈As b o ms
 | _,[],_,_,h=>by simp at h
 | o,y::r,0,m,h=>by simp at h;subst h;simp [As]
 | o,y::r,j+1,m,h=>by
  have:=Gb b (o+12) r j m (by simpa using h);rw [show o+12+6+j*12=o+6+(j+1)*12 by omega] at this;exact List.mem_cons_of_mem _ this
theorem Mp{k:Int}(h:DY k=true):k=1∨k=2∨k=3∨k=4∨k=5∨k=6∨k=7∨k=8∨k=9:=by
 unfold DY at h;rw [List.find?_isSome] at h;obtain ⟨p,hp,he⟩:=h;simp only [decide_eq_true_eq] at he;subst he;simp only [suitTab,List.mem_cons,List.not_mem_nil,or_false] at hp;rcases hp with rfl|rfl|rfl|rfl|rfl|rfl|rfl|rfl|rfl<;>simp
theorem PD{m:Mov}(h:Cr m=true):0≤m.size∧m.size≤16:=by
 unfold Cr LY at h;simp only [Bool.and_eq_true] at h;obtain ⟨⟨h1,_⟩,h2,_⟩:=h;rcases Mp h1 with e|e|e|e|e|e|e|e|e<;>rw [e] at h2<;>simp [QX,Dw,suitTab,GV,inB] at h2<;>omega
theorem Ri{s:Sc}{W:World}{b o:Nat}{ms:List Mov}(hr:s.roles.length≤64)(hg:∀x∈As b o ms,FZ s W x)(hm:ms.all Cr=true):MvN (GW s) W b o ms:=λj m hj=>by
 have hg:=hg _ (Gb b o ms j m hj);have hA:=PD (List.all_eq_true.1 hm m (List.mem_of_getElem? hj));by_cases hk:m.kind=7∨m.kind=8
 ·obtain ⟨h1,h2⟩:=IW hg (by simp [Dh,hk])
  simp only at h1 h2;have:s.rnames.idxOf m.wn<s.rnames.length:=List.idxOf_lt_length_iff.2 h2;have e:s.rnames.length=s.roles.length:=by simp [Sc.rnames]
  refine ⟨_,?_,rfl,?_,by omega⟩
  ·rw [show o+j*12+7=o+6+j*12+1 by omega];exact h1
  ·unfold GW;omega
 ·obtain ⟨h1,h2⟩:=Ns hg (by simp [Dh,hk])
  simp only at h1 h2;refine ⟨0,?_,?_,by omega,by omega⟩
  ·rw [show o+j*12+7=o+6+j*12+1 by omega];exact h1
  ·unfold Ln;rw [if_pos h2,if_pos h2]
theorem MY{y:BarR}{l:List BarR}:∀{n:Nat},y∈Cy n l→y∈l
 | 0,h=>by cases h
 | n+1,h=>(List.mem_append.1 h).elim id MY
theorem MG{g:Nm→Int}{W:World}{b:Bool}{l:List BarR}(h:∀y∈l,GK g W y):∀y∈AA b l,GK g W y:=λy hy=>by
 obtain ⟨z,hz,rfl⟩:=List.mem_map.1 hy;exact h z hz
theorem Jv{s:Sc}{W:World}{f:Nm→Int}{F:Int→List BarR}(hr:s.roles.length≤64)(hF:∀k,∀y∈F k,GK (GW s) W y):∀(T:Lt) (b o:Nat),T.At W b o→(∀x∈T.refsL b o,FZ s W x)→T.strip.exB=true→T.small→∀y∈T.bars f F,GK (GW s) W y
 | .nil,_,_,_,_,_,_,y,hy=>by cases hy
 | .cons k n un ia ic its ma mc ms r,b,o,⟨_,⟨m1,m2,m3⟩,⟨_,_,i3⟩,hR⟩,hg,hx,⟨_,z2,z3,z4⟩,y,hy=>by
  have hA:(Its.cons k n un its.strip ms r.strip).exB=true:=hx;obtain ⟨_,hi,hC⟩:=Its.exB_parts hA
  have hD:ms.all Cr=true:=by
   simp only [Its.exB,Bool.and_eq_true] at hA;exact hA.2.2.2.1.1
  have hB:=Jv (f:=f) hr hF its _ _ i3 (λx hx=>hg x (by simp [Lt.refsL,hx])) hi z3;simp only [Lt.bars,List.mem_append] at hy;rcases hy with hy|hy
  ·unfold itB at hy
   split at hy
   ·rcases List.mem_cons.1 hy with rfl|hy
    ·exact ⟨m1,m3,Ri hr (λx hx=>hg x (by simp [Lt.refsL,hx])) hD,by simp only;omega⟩
    ·cases hy
   ·split at hy
    ·exact hB y (MY hy)
    ·split at hy
     ·exact MG hB y hy
     ·split at hy
      ·exact hF _ y hy
      ·cases hy
  ·exact Jv (f:=f) hr hF r _ _ hR (λx hx=>hg x (by simp [Lt.refsL,hx])) hC z4 y hy
theorem If{p:Ph}:∀{ps:List Ph},p∈ps→∀x∈p.refsL,x∈Ar ps
 | q::r,h,x,hx=>by
  rcases List.mem_cons.1 h with rfl|h
  ·exact List.mem_append_left _ hx
  ·exact List.mem_append_right _ (If h x hx)
theorem KQ{w:World}{b:Nat}{p:Ph}:∀{o:Nat} {ps:List Ph},Bk w b o ps→p∈ps→p.Its w
 | _,q::r,⟨⟨_,_,h⟩,hr⟩,hp=>by
  rcases List.mem_cons.1 hp with rfl|hp
  ·exact h
  ·exact KQ hr hp
theorem Mx{s:Ls}{W:World}{f:Nm→Int}(hr:s.roles.length≤64)(hA:s.At W)(hg:∀x∈s.refs,FZ s.strip W x)(hx:∀p∈s.phrases,p.its.strip.exB=true)(hz:∀p∈s.phrases,p.its.small):∀(d:Nat) (k:Int),∀y∈Ju s.ltsL f d k,GK (GW s.strip) W y
 | 0,_,y,hy=>by cases hy
 | d+1,k,y,hy=>by
  unfold Ju at hy
  split at hy
  ·cases ht:s.ltsL[k.toNat]? with
   | none=>rw [ht] at hy;cases hy
   | some t =>
    rw [ht] at hy;obtain ⟨p,hp,rfl⟩:=List.mem_map.1 (List.mem_of_getElem? ht);obtain ⟨_,_,h3⟩:=KQ hA.phrases hp;exact Jv (s:=s.strip) hr (Mx hr hA hg hx hz d) p.its _ _ h3 (λx hx=>hg x (List.mem_append_left _ (If hp x hx))) (hx p hp) (hz p hp) y hy
  ·cases hy
def Nq(s:Ls)(d:Dan):DnX:=⟨d,GW s.strip d.rn,s.strip.pnames.idxOf d.pn⟩
theorem Sy{s:Sc}{W:World}{b:Nat}:∀{o:Nat} {ds:List Dan} {i:Nat} {d:Dan},Bw W b o ds→(∀x∈Ao b o ds,FZ s W x)→ds[i]?=some d→(∀(k:Nat) (v:Value),(#[sv d.rn,int i64 (GW s d.rn),sv d.pn,int i64 (s.pnames.idxOf d.pn:Nat),int i64 d.bar,.bool d.mirror]:Array Value)[k]?=some v→W.cell? ⟨b,o+i*6+k,none⟩=some v)∧d.pn∈s.pnames∧d.rn∈s.rnames
 | _,[],_,_,_,_,h=>by cases h
 | o,x::r,0,d,⟨⟨h0,h2,h4,h5⟩,_⟩,hn,h=>by
  cases h;obtain ⟨a1,a2⟩:=IW (hn ⟨b,o,1,x.rn⟩ (by simp [Ao])) rfl;obtain ⟨b1,b2⟩:=Pg (hn ⟨b,o+2,2,x.pn⟩ (by simp [Ao])) rfl;refine ⟨λk v hk=>?_,b2,a2⟩;rw [Nat.zero_mul,Nat.add_zero]
  match k,hk with
  | 0,hk=>cases hk;exact h0
  | 1,hk=>cases hk;exact a1
  | 2,hk=>cases hk;exact h2
  | 3,hk=>cases hk;exact b1
  | 4,hk=>cases hk;exact h4
  | 5,hk=>cases hk;exact h5
  | k+6,hk=>simp at hk
 | o,x::r,i+1,d,⟨_,hr⟩,hn,h=>by
  have:=Sy (i:=i) hr (λy hy=>hn y (by simp [Ao,hy])) (by simpa using h);rw [show o+(i+1)*6=o+6+i*6 by omega];exact this
theorem Uy{s:Ls}{ns:List Int}{w:World}(hA:s.At w)(hN:NsAt w s.refs ns)(hs:B5 s ns=0) :
  ExOk (GW s.strip) s (AI s.strip) (DR s.itsL (AI s.strip)) (Cz (s.nexts (AI s.strip))) (Jt s.ltsL (AI s.strip)) w (s.dances.map (Nq s)) (blk s.da) (off s.da):=by
 unfold B5 at hs
 split at hs
 case isFalse h=>exact absurd hs h
 rename_i hc
 split at hs
 case isFalse=>omega
 rename_i hL;unfold Ir at hL;simp only [Bool.and_eq_true,decide_eq_true_eq] at hL;obtain ⟨_,⟨k0,k1⟩,_,kc,kx,kr,kd⟩:=hL;obtain ⟨hl,_,_,_,hi⟩:=E7 hc;obtain ⟨zp,zd,zr,zs⟩:=DS hl;rw [← s.refs_key] at hi;have hg:∀x∈s.refs,FZ s.strip w x:=MI hN hi;have kx':∀p∈s.phrases,p.its.strip.exB=true:=List.all_eq_true.1 kx;have hC:=LX kx kr (Kd hc);have hB:=OF hC kr;have hF:=λk=>Mx (f:=AI s.strip) (by exact zr) hA hg kx' (λp hp=>(zs p hp).2) s.ltsL.length k
 have hI:=Fc kc;unfold Sc.lims Sc.fit at hl;simp only [Bool.and_eq_true,decide_eq_true_eq] at hl;obtain ⟨⟨_,y2,y3,y4,_⟩,_⟩:=hl;obtain ⟨q1,q2⟩:=AL.1 k0;obtain ⟨q3,q4⟩:=AL.1 k1;refine ⟨hA,λx hx=>?_,hB,by omega,by simp,?_,by omega,?_,by omega,by simpa [Ls.strip] using Nat.le_trans y2 (by decide),by simpa [Ls.strip] using Nat.le_trans y3 (by decide),by simpa [Ls.strip] using Nat.le_trans y4 (by decide),⟨by omega,q2⟩,⟨q3,by omega⟩⟩
 ·exact MN hc hN x (List.mem_append_left _ hx)
 ·rcases hA.dform with h|h
  ·exact Or.inl (by rw [h];rfl)
  ·exact Or.inr h
 ·intro i x hx
  rw [List.getElem?_map] at hx;obtain ⟨d,hd,rfl⟩:=Option.map_eq_some_iff.1 hx;have hG:=List.mem_of_getElem? hd;obtain ⟨h1,h2,h3⟩:=Sy hA.dances (λx hx=>hg x (List.mem_append_right _ hx)) hd
  have hE:s.strip.pnames.idxOf d.pn<s.phrases.length:=by
   have:=List.idxOf_lt_length_iff.2 h2;simpa [Sc.pnames,Ls.strip] using this
  have hD:=List.all_eq_true.1 kd d hG;unfold CR at hD;simp only [Bool.and_eq_true,decide_eq_true_eq] at hD;obtain ⟨hb,hH⟩:=hD;have hb:=AL.1 hb;have hn:=hB.num _ hE;refine ⟨h1,⟨_,qg hE⟩,⟨hb.1,by have:=hb.2;simp only [Nq];omega⟩,MG (hF _),?_⟩;unfold DnX.bars;rw [FF];rw [show AI s.strip d.pn=((s.strip.pnames.idxOf d.pn:Nat):Int) from rfl,hn] at hH;simp only [Nq];omega
end
section
open Go Go.RowKit Go.Shelf Go.Deep
section
attribute [local go_sem] Oper.semAt_some
theorem LP(s:Ls)(ns:List Int)(c:Int)(w:World)(hA:s.At w)(hN:NsAt w s.refs ns)(he:Env w)(hs:B5 s ns=c)(hc:c≠0) :
  Calls Tryz.prog 11 #[s.val] w λe w'=>e=.returned (.tuple #[.agg wkZ,int i64 c])∧Below w.heap.size w w':=by
 obtain ⟨V1,e1,g1,b1,s1⟩:=Af w s.cells 30;obtain ⟨V2,e2,g2,b2,s2⟩:=Af V1 wkZ 39;obtain ⟨V3,e3,g3,b3,s3⟩:=Af V2 #[int i64 0] 40;obtain ⟨SX,hI⟩:∃X,w.heap.size=X:=⟨_,rfl⟩;obtain ⟨WB,hK⟩:∃X,V1.heap.size=X:=⟨_,rfl⟩;obtain ⟨EB,hL⟩:∃X,V2.heap.size=X:=⟨_,rfl⟩;rw [hI] at g1;rw [hK] at g2;rw [hL] at g3;have b03:Below w.heap.size w V3:=Ag b1 (Ag b2 b3);have gS:=Ah b3 (Ah b2 g1);have gW:=Ah b3 g2;have CS:=FQ s ns V3 (hA.below b03) (hN.below b03) (he.below b03);have hC:SX=w.heap.size∧w.heap.size<WB∧WB<EB∧EB<V3.heap.size:=by omega
 have hX:=qh gS;have hM:=qh gW;have hO:=qh g3;have hP:=qh b03;have hQ:=qh CS;have hB:=qh hC;have hR:=qh hs;have hY:(c==0)=false:=by simpa using hc
 clear g1 g2 g3 b1 b2 b3 s1 s2 s3 b03 CS hA hN he hC;unfold wkZ at e2;unfold Ls.cells at e1;have z0:V3.cell? ⟨SX,0,none⟩=some (sv s.name):=Aa gS 0 rfl;have z1:V3.cell? ⟨SX,1,none⟩=some (int i64 s.wd):=Aa gS 1 rfl;have z2:V3.cell? ⟨SX,2,none⟩=some (int i64 s.dp):=Aa gS 2 rfl;have z3:V3.cell? ⟨SX,3,none⟩=some (int i64 s.bars):=Aa gS 3 rfl;have z4:V3.cell? ⟨SX,4,none⟩=some (int i64 s.t0):=Aa gS 4 rfl;have z5:V3.cell? ⟨SX,5,none⟩=some (int i64 s.t1):=Aa gS 5 rfl;have z6:V3.cell? ⟨SX,6,none⟩=some (.slice s.ra s.roles.length s.rc):=Aa gS 6 rfl;have z7:V3.cell? ⟨SX,7,none⟩=some (.slice s.ta s.tempos.length s.tc):=Aa gS 7 rfl;have z8:V3.cell? ⟨SX,8,none⟩=some (.slice s.ua s.pauses.length s.uc):=Aa gS 8 rfl;have z9:V3.cell? ⟨SX,9,none⟩=some (.slice s.sa s.spans.length s.sc):=Aa gS 9 rfl;have za:V3.cell? ⟨SX,10,none⟩=some (.slice s.fa s.phrases.length s.fc):=Aa gS 10 rfl;have zb:V3.cell? ⟨SX,11,none⟩=some (.slice s.da s.dances.length s.dc):=Aa gS 11 rfl;clear gS gW;refine (callsIn_wide (n:=20)).1 ?_;refine callsIn_of_wp_marks Tryz.func11 rfl trivial ?_ rfl;simp only [Tryz.ntmps11,List.size_toArray,List.length_cons,List.length_nil,Nat.reduceAdd,Nat.reduceSub,Array.replicate_succ,Array.replicate_zero,List.push_toArray,List.append_toArray,List.nil_append,List.cons_append];change Code.wpIn _ _ _ (Dl 7 code10 tail10) _ _ _
 conv=>arg 4;whnf
 have hv:s.val=.agg s.cells:=rfl;rw [hv];unfold Ls.cells;gi_wp2_with fail
 conv=>arg 4;whnf
 gi_wp2_with fail;refine ⟨trivial,?_⟩;refine (callsIn_wide.2 hQ.out).mono ?_;rintro e V4 ⟨rfl,hF⟩;rw [hR.out];have hG:=hF;have gW4:=Ah hF hM.out;have gE4:=Ah hF hO.out;have hH:=qh gW4;have y0:V4.cell? ⟨WB,0,none⟩=some (int i64 0):=Aa gW4 0 rfl;have y1:V4.cell? ⟨WB,1,none⟩=some (int i64 0):=Aa gW4 1 rfl;have y2:V4.cell? ⟨WB,2,none⟩=some (int i64 0):=Aa gW4 2 rfl;have y3:V4.cell? ⟨WB,3,none⟩=some (int i64 0):=Aa gW4 3 rfl;have y4:V4.cell? ⟨WB,4,none⟩=some (int i64 0):=Aa gW4 4 rfl;have y5:V4.cell? ⟨WB,5,none⟩=some (.slice none 0 0):=Aa gW4 5 rfl;have y6:V4.cell? ⟨WB,6,none⟩=some (int i64 0):=Aa gW4 6 rfl;have y7:V4.cell? ⟨WB,7,none⟩=some (.slice none 0 0):=Aa gW4 7 rfl;have y8:V4.cell? ⟨WB,8,none⟩=some (.slice none 0 0):=Aa gW4 8 rfl;have y9:V4.cell? ⟨WB,9,none⟩=some (.slice none 0 0):=Aa gW4 9 rfl;have y10:V4.cell? ⟨WB,10,none⟩=some (.slice none 0 0):=Aa gW4 10 rfl;obtain ⟨U1,eU1,gU1,_⟩:=AO (cs:=wkZ) gW4 (Below.refl 0 V4) (Nat.zero_le _);have oU1:=λb hS=>setRow_other V4 WB b wkZ hS
 rw [eU1] at oU1;have hD:EB≠WB:=by have:=hB.out;omega
 have gEU:=(oU1 EB hD).trans gE4;obtain ⟨U2,eU2,gU2,oU2,bU2,sU2⟩:=Bp gEU (int i64 c);have ex:U1.cell? ⟨EB,0,none⟩=some (int i64 0):=Aa gEU 0 rfl;have ey:U1.frozen? ⟨EB,0,none⟩=false:=by simp [World.frozen?,gEU]
 have gWU:U2.heap[WB]?=some (.cells wkZ 39 (0,0)):=(oU2 WB (Ne.symm hD)).trans gU1
 have hJ:Below w.heap.size w U2:=by
  refine bU2 _ _ ?_ (by have:=hB.out;omega);obtain ⟨U1',q1,_,q3⟩:=AO (cs:=wkZ) gW4 (Ag hP.out hG) (by have:=hB.out;omega);rw [← eU1,q1];exact q3
 have hT:=qh ex;have hU:=qh ey;have hV:=qh gWU;have hE:=qh hJ;have hW:=qh eU1;clear z0 z1 z2 z3 z4 z5 z6 z7 z8 z9 za zb hF gW4 gE4 eU1 gU1 oU1 gEU oU2 bU2 sU2 ex ey gWU hJ
 gi_wp2_with (refine BM rfl 39 _ _ rfl WB wkZ rfl rfl 39 _ hH.out (by kernel_rfl) rfl (by kernel_rfl) ?_;rw [hW.out];clear y0 y1 y2 y3 y4 y5 y6 y7 y8 y9 y10;have ex:=hT.out;have ey:=hU.out);exact Gx (W:=U2) (Ds:=[]) ⟨List.nodup_nil,by simp⟩ rfl rfl hV.out gU2 ⟨rfl,by first|exact hE.out|(have h:=hE.out;rw [hI] at h;exact h)⟩
theorem Kv(s:Ls)(ns:List Int)(w:World)(hA:s.At w)(hN:NsAt w s.refs ns)(he:Env w)(hs:B5 s ns=0)(hr:s.roles=[]) :
  Calls Tryz.prog 11 #[s.val] w λe w'=>e=.returned (.tuple #[.agg wkZ,int i64 190])∧Below w.heap.size w w':=by
 obtain ⟨V1,e1,g1,b1,s1⟩:=Af w s.cells 30;obtain ⟨V2,e2,g2,b2,s2⟩:=Af V1 wkZ 39;obtain ⟨V3,e3,g3,b3,s3⟩:=Af V2 #[int i64 0] 40;obtain ⟨SX,hJ⟩:∃X,w.heap.size=X:=⟨_,rfl⟩;obtain ⟨WB,hM⟩:∃X,V1.heap.size=X:=⟨_,rfl⟩;obtain ⟨EB,hO⟩:∃X,V2.heap.size=X:=⟨_,rfl⟩;rw [hJ] at g1;rw [hM] at g2;rw [hO] at g3;have b03:Below w.heap.size w V3:=Ag b1 (Ag b2 b3);have gS:=Ah b3 (Ah b2 g1);have gW:=Ah b3 g2;have CS:=FQ s ns V3 (hA.below b03) (hN.below b03) (he.below b03);have hE:SX=w.heap.size∧w.heap.size<WB∧WB<EB∧EB<V3.heap.size:=by omega
 have hC:=qh gS;have hP:=qh gW;have hQ:=qh g3;have hR:=qh b03;have hS:=qh CS;have hD:=qh hE;have hT:=qh hs;have hK:Hid (s.roles.length=0):=qh (by rw [hr];rfl);clear hr;clear g1 g2 g3 b1 b2 b3 s1 s2 s3 b03 CS hA hN he hE;unfold wkZ at e2;unfold Ls.cells at e1;have z0:V3.cell? ⟨SX,0,none⟩=some (sv s.name):=Aa gS 0 rfl;have z1:V3.cell? ⟨SX,1,none⟩=some (int i64 s.wd):=Aa gS 1 rfl;have z2:V3.cell? ⟨SX,2,none⟩=some (int i64 s.dp):=Aa gS 2 rfl;have z3:V3.cell? ⟨SX,3,none⟩=some (int i64 s.bars):=Aa gS 3 rfl;have z4:V3.cell? ⟨SX,4,none⟩=some (int i64 s.t0):=Aa gS 4 rfl;have z5:V3.cell? ⟨SX,5,none⟩=some (int i64 s.t1):=Aa gS 5 rfl;have z6:V3.cell? ⟨SX,6,none⟩=some (.slice s.ra s.roles.length s.rc):=Aa gS 6 rfl;have z7:V3.cell? ⟨SX,7,none⟩=some (.slice s.ta s.tempos.length s.tc):=Aa gS 7 rfl;have z8:V3.cell? ⟨SX,8,none⟩=some (.slice s.ua s.pauses.length s.uc):=Aa gS 8 rfl;have z9:V3.cell? ⟨SX,9,none⟩=some (.slice s.sa s.spans.length s.sc):=Aa gS 9 rfl;have za:V3.cell? ⟨SX,10,none⟩=some (.slice s.fa s.phrases.length s.fc):=Aa gS 10 rfl;have zb:V3.cell? ⟨SX,11,none⟩=some (.slice s.da s.dances.length s.dc):=Aa gS 11 rfl;clear gS gW;refine (callsIn_wide (n:=20)).1 ?_;refine callsIn_of_wp_marks Tryz.func11 rfl trivial ?_ rfl;simp only [Tryz.ntmps11,List.size_toArray,List.length_cons,List.length_nil,Nat.reduceAdd,Nat.reduceSub,Array.replicate_succ,Array.replicate_zero,List.push_toArray,List.append_toArray,List.nil_append,List.cons_append];change Code.wpIn _ _ _ (Dl 7 code10 tail10) _ _ _
 conv=>arg 4;whnf
 have hv:s.val=.agg s.cells:=rfl;rw [hv];unfold Ls.cells;gi_wp2_with fail
 conv=>arg 4;whnf
 gi_wp2_with fail;refine ⟨trivial,?_⟩;refine (callsIn_wide.2 hS.out).mono ?_;rintro e V4 ⟨rfl,hH⟩;rw [hT.out];have hB:=hH;have x0:V4.cell? ⟨SX,0,none⟩=some (sv s.name):=Aa (Ah hB hC.out) 0 rfl;have x1:V4.cell? ⟨SX,1,none⟩=some (int i64 s.wd):=Aa (Ah hB hC.out) 1 rfl;have x2:V4.cell? ⟨SX,2,none⟩=some (int i64 s.dp):=Aa (Ah hB hC.out) 2 rfl;have x3:V4.cell? ⟨SX,3,none⟩=some (int i64 s.bars):=Aa (Ah hB hC.out) 3 rfl;have x4:V4.cell? ⟨SX,4,none⟩=some (int i64 s.t0):=Aa (Ah hB hC.out) 4 rfl;have x5:V4.cell? ⟨SX,5,none⟩=some (int i64 s.t1):=Aa (Ah hB hC.out) 5 rfl;have x6:V4.cell? ⟨SX,6,none⟩=some (.slice s.ra s.roles.length s.rc):=Aa (Ah hB hC.out) 6 rfl;have x7:V4.cell? ⟨SX,7,none⟩=some (.slice s.ta s.tempos.length s.tc):=Aa (Ah hB hC.out) 7 rfl;have x8:V4.cell? ⟨SX,8,none⟩=some (.slice s.ua s.pauses.length s.uc):=Aa (Ah hB hC.out) 8 rfl;have x9:V4.cell? ⟨SX,9,none⟩=some (.slice s.sa s.spans.length s.sc):=Aa (Ah hB hC.out) 9 rfl;have xa:V4.cell? ⟨SX,10,none⟩=some (.slice s.fa s.phrases.length s.fc):=Aa (Ah hB hC.out) 10 rfl;have xb:V4.cell? ⟨SX,11,none⟩=some (.slice s.da s.dances.length s.dc):=Aa (Ah hB hC.out) 11 rfl;have gW4:=Ah hH hP.out;have gE4:=Ah hH hQ.out;have hI:=qh gW4;have y0:V4.cell? ⟨WB,0,none⟩=some (int i64 0):=Aa gW4 0 rfl;have y1:V4.cell? ⟨WB,1,none⟩=some (int i64 0):=Aa gW4 1 rfl;have y2:V4.cell? ⟨WB,2,none⟩=some (int i64 0):=Aa gW4 2 rfl;have y3:V4.cell? ⟨WB,3,none⟩=some (int i64 0):=Aa gW4 3 rfl;have y4:V4.cell? ⟨WB,4,none⟩=some (int i64 0):=Aa gW4 4 rfl;have y5:V4.cell? ⟨WB,5,none⟩=some (.slice none 0 0):=Aa gW4 5 rfl;have y6:V4.cell? ⟨WB,6,none⟩=some (int i64 0):=Aa gW4 6 rfl;have y7:V4.cell? ⟨WB,7,none⟩=some (.slice none 0 0):=Aa gW4 7 rfl;have y8:V4.cell? ⟨WB,8,none⟩=some (.slice none 0 0):=Aa gW4 8 rfl;have y9:V4.cell? ⟨WB,9,none⟩=some (.slice none 0 0):=Aa gW4 9 rfl;have y10:V4.cell? ⟨WB,10,none⟩=some (.slice none 0 0):=Aa gW4 10 rfl;obtain ⟨U1,eU1,gU1,_⟩:=AO (cs:=wkZ) gW4 (Below.refl 0 V4) (Nat.zero_le _);have oU1:=λb hU=>setRow_other V4 WB b wkZ hU
 rw [eU1] at oU1;have hF:EB≠WB:=by have:=hD.out;omega
 have gEU:=(oU1 EB hF).trans gE4;obtain ⟨U2,eU2,gU2,oU2,bU2,sU2⟩:=Bp gEU (int i64 190);have ex:U1.cell? ⟨EB,0,none⟩=some (int i64 0):=Aa gEU 0 rfl;have ey:U1.frozen? ⟨EB,0,none⟩=false:=by simp [World.frozen?,gEU]
 have gWU:U2.heap[WB]?=some (.cells wkZ 39 (0,0)):=(oU2 WB (Ne.symm hF)).trans gU1
 have hL:Below w.heap.size w U2:=by
  refine bU2 _ _ ?_ (by have:=hD.out;omega);obtain ⟨U1',q1,_,q3⟩:=AO (cs:=wkZ) gW4 (Ag hR.out hB) (by have:=hD.out;omega);rw [← eU1,q1];exact q3
 have hV:=qh ex;have hW:=qh ey;have hX:=qh gWU;have hG:=qh hL;have hY:=qh eU1;rw [hK.out] at x6;clear z0 z1 z2 z3 z4 z5 z6 z7 z8 z9 za zb hH hB gW4 gE4 eU1 gU1 oU1 gEU oU2 bU2 sU2 ex ey gWU hL hK;gi_wp2_with fail
 conv=>arg 4;whnf
 gi_wp2_with (refine BM rfl 39 _ _ rfl WB wkZ rfl rfl 39 _ hI.out (by kernel_rfl) rfl (by kernel_rfl) ?_;rw [hY.out];clear y0 y1 y2 y3 y4 y5 y6 y7 y8 y9 y10;have ex:=hV.out;have ey:=hW.out);exact Gx (W:=U2) (Ds:=[]) ⟨List.nodup_nil,by simp⟩ rfl rfl hX.out gU2 ⟨rfl,by first|exact hG.out|(have h:=hG.out;rw [hJ] at h;exact h)⟩
end
end
section
open Go Go.RowKit Go.Shelf Go.Deep
def PG:Int→List Sgn→List Sgn
 | _,[]=>[]
 | k,s::r=>{ s with id:=k }::PG (k+1) r
theorem KM(Y:Nat→Sgn)(N:Nat):∀(n a:Nat),a+n=N→PG a (seg Y a n)=seg (Ez Y N) a n
 | 0,_,_=>rfl
 | n+1,a,h=>by
  have e1:∀X:Nat→Sgn,seg X a (n+1)=X a::seg X (a+1) n:=λX=>by simp [seg,List.range'_succ]
  have e3:Ez Y N a={ Y a with id:=(a:Int) }:=by unfold Ez;rw [if_pos (by omega)]
  rw [e1,e1,PG,e3,← KM Y N n (a+1) (by omega),Int.natCast_add]
  rfl
theorem GH{α:Type}(X:Nat→α)(a n:Nat):(seg X a n).length=n:=by simp [seg]
theorem SgnRow.isRow{Z:Nat}{W:World}{v:Value}{N:Nat}{L:Nat→Sgn}(h:SgnRow Z W v N L)(hN:N≤maxLen):IsRow Av 14 W v (seg L 0 N):=by
 rcases h with ⟨rfl,ao,c,rfl⟩|⟨g,cap,rfl,hg,hr⟩
 ·exact ⟨ao,c,rfl,Nat.zero_le _,Or.inl rfl⟩
 ·refine ⟨some ⟨g,0,none⟩,cap,by rw [GH],by rw [GH];exact hN,Or.inr ⟨g,0,rfl,λi x hx j u hu=>?_,?_⟩⟩
  ·have hi:i<N:=by have:=(ql.1 hx).1;rwa [GH] at this
   have e:(seg L 0 N)[i]?=some (L i):=by simp [seg,hi]
   rw [e] at hx;cases hx;exact hr.at_ i hi j u hu
  ·obtain ⟨cur,t,hc⟩:=hr.free
   exact (qs.1 hc).1
theorem GP(g:Nm→Int)(rl:Int):∀(tt:Int) (l:List BarR),∀x∈Bg g rl tt l,tt≤x.bar∧x.bar<tt+l.length
 | _,[],x,h=>by cases h
 | tt,y::r,x,h=>by
  rw [Bg] at h;simp only [List.length_cons];rcases List.mem_append.1 h with h|h
  ·obtain ⟨m,_,rfl⟩:=List.mem_map.1 h
   have e:(KX m (g m.wn) y.mir rl tt).bar=tt:=rfl;rw [e];omega
  ·have:=GP g rl (tt+1) r x h
   omega
def Ff(s:Ls):List Sgn:=(s.dances.map (Nq s)).flatMap λx=>x.sgs (GW s.strip) (Jt s.ltsL (AI s.strip))
def DO(s:Ls):List Sgn:=PG 0 (IL s.bars.toNat (Ff s))
theorem L0{s:Ls}{ns:List Int}(h:B5 s ns=0):Dd s.strip ns=0∧Ir s (AI s.strip)=true:=by
 unfold B5 at h
 split at h
 ·rename_i hc
  split at h
  ·rename_i hL;exact ⟨hc,hL⟩
  ·omega
 ·rename_i hc;exact absurd h hc
theorem PV{s:Ls}{ns:List Int}(hs:B5 s ns=0):∀x∈Ff s,0≤x.bar∧x.bar<s.bars.toNat:=by
 obtain ⟨hc,hL⟩:=L0 hs;unfold Ir at hL;simp only [Bool.and_eq_true,decide_eq_true_eq] at hL;obtain ⟨_,_,_,kc,kx,kr,kd⟩:=hL;have hA:=OF (LX kx kr (Kd hc)) kr;have hG:=Fc kc;intro x hx;obtain ⟨y,hy,hx⟩:=List.mem_flatMap.1 hx;obtain ⟨d,hd,rfl⟩:=List.mem_map.1 hy;obtain ⟨i,hC,hD⟩:=FE hc hd;have hB:=List.all_eq_true.1 kd d hd;unfold CR at hB;simp only [Bool.and_eq_true,decide_eq_true_eq] at hB;obtain ⟨hb,hE⟩:=hB;have hb:=AL.1 hb;have hn:=hA.num i hD;rw [hC,hn] at hE;have hF:((s.strip.pnames.idxOf d.pn:Nat):Int)=i:=hC;unfold DnX.sgs DnX.bars Nq at hx;simp only at hx;have:=GP _ _ _ _ x hx;rw [FF,hF] at this;omega
def TZ(s:Ls)(w:World)(e:Ending)(w':World):Prop :=
 Below w.heap.size w w'∧((4096<(Ff s).length∧e=.returned (.tuple #[.agg wkZ,int i64 2])) ∨
  ((Ff s).length≤4096∧∃(ra a0 a1 a2 a3:Option Addr) (rc c0 c1 c2 c3:Nat),e=.returned (.tuple #[.agg #[int i64 s.wd,int i64 s.dp,int i64 (mkA s.t0 s.t1),int i64 (mkB s.t0 s.t1),int i64 (mkC s.t0 s.t1),.slice ra s.roles.length rc,int i64 s.bars,.slice a0 s.tempos.length c0,.slice a1 s.pauses.length c1,.slice a2 s.spans.length c2,.slice a3 (DO s).length c3],int i64 0]) ∧
   IsRow CT 4 w' (.slice ra s.roles.length rc) s.roles∧IsRow BS 3 w' (.slice a0 s.tempos.length c0) s.tempos∧IsRow Cx 4 w' (.slice a1 s.pauses.length c1) s.pauses∧IsRow Cw 4 w' (.slice a2 s.spans.length c2) s.spans∧IsRow Av 14 w' (.slice a3 (DO s).length c3) (DO s)∧∀b o,a3=some ⟨b,o,none⟩→DO s≠[]→w.heap.size≤b))
theorem LN(s:Ls)(ns:List Int)(w:World)(hA:s.At w)(hN:NsAt w s.refs ns)(he:Env w)(hs:B5 s ns=0)(hr:s.roles≠[]):Calls Tryz.prog 11 #[s.val] w (TZ s w):=by
 have ht:¬(s.t0=0∧s.t1=0):=λ⟨h,_⟩=>by
  have hL:=(L0 hs).2;unfold Ir at hL;simp only [Bool.and_eq_true,decide_eq_true_eq] at hL;have:=AL.1 hL.2.1.1;omega
 refine (LO (GW s.strip) s ns (AI s.strip) _ _ _ (s.dances.map (Nq s)) _ _ w (Uy hA hN hs) hN he hs hr ht).mono ?_;rintro e w' ⟨hb,h⟩;refine ⟨hb,?_⟩;rcases h with h|⟨ra,a0,a1,a2,rc,c0,c1,c2,v,Y,hl,hD,r1,r2,r3,r4,r5,hS,hO⟩
 ·exact Or.inl h
 ·refine Or.inr ⟨hl,?_⟩
  have e1:DO s=seg (Ez Y (Ff s).length) 0 (Ff s).length:=by
   unfold DO;rw [← KM Y _ _ 0 (by omega)];exact congrArg (PG 0) (L1 (PV hs) hS hO).symm
  have hB:=r5.isRow (Nat.le_trans hl (by decide));change IsRow Av 14 w' v (seg (Ez Y (Ff s).length) 0 (Ff s).length) at hB;rw [← e1] at hB;have hC:=hB;obtain ⟨a3,c3,e2,_⟩:=hC;subst e2;refine ⟨ra,a0,a1,a2,a3,rc,c0,c1,c2,c3,hD,r1,r2,r3,r4,hB,λb o ea hE=>?_⟩;rcases r5 with ⟨h0,_⟩|⟨g,cap,ev,hg,_⟩
  ·exact absurd (List.length_eq_zero_iff.1 (by rw [e1,GH];exact h0)) hE
  ·injection ev with e3 _ _
   rw [ea] at e3;cases e3;exact hg
def ofL(r b:Int)(l:List Sgn):List Sgn:=l.filter λs=>decide (s.role=r)&&decide (s.bar=b)
theorem NM(wd dp ta tb tc bars:Int)(aR aT aP aX aS:Option Addr)(cR cT cP cX cS:Nat)(rs:List Rol)(ts:List Tmp)(ps:List Pau)(xs:List Con)(ss:List Sgn)(r b:Int)(w:World)(hE:EnvK w)(P:Ending→World→Prop)
  (hR:IsRow CT 4 w (.slice aR rs.length cR) rs) (hT:IsRow BS 3 w (.slice aT ts.length cT) ts) (hP:IsRow Cx 4 w (.slice aP ps.length cP) ps) (hX:IsRow Cw 4 w (.slice aX xs.length cX) xs) (hS:IsRow Av 14 w (.slice aS ss.length cS) ss)
  (hw:Dc ⟨wd,dp,ta,tb,tc,rs,⟨bars,ts,ps,xs⟩,ss⟩=0) (hr:inB r 0 ((rs.length:Int)-1)=true) (hb:inB b 0 (bars-1)=true) (h5:0≤bars∧bars≤1000000) (h6:rs.length≤1000000) (h7:ss.length≤4096)
  (hH:∀(W:World) (v:Value),Below w.heap.size w W→W.ownsRow w.heap.size 54 14 v (ofL r b ss).length ((ofL r b ss).flatMap Av)→Calls Tryz.prog 34 #[v,.func (.func 45) #[] #[]] W λe w'=>e=.returned (.tuple #[])∧P (.returned (.tuple #[v,int i64 0])) w') :
  Calls Tryz.prog 15 #[.agg #[int i64 wd,int i64 dp,int i64 ta,int i64 tb,int i64 tc,.slice aR rs.length cR,int i64 bars,.slice aT ts.length cT,.slice aP ps.length cP,.slice aX xs.length cX,.slice aS ss.length cS],int i64 r,int i64 b] w P:=by
 obtain ⟨V1,e1,g1,b1,s1⟩:=Af w #[int i64 wd,int i64 dp,int i64 ta,int i64 tb,int i64 tc,.slice aR rs.length cR,int i64 bars,.slice aT ts.length cT,.slice aP ps.length cP,.slice aX xs.length cX,.slice aS ss.length cS] 39;obtain ⟨BX,hl⟩:∃X,w.heap.size=X:=⟨_,rfl⟩;rw [hl] at g1;have CK:=DN wd dp ta tb tc bars aR aT aP aX aS cR cT cP cX cS rs ts ps xs ss V1 (hE.below b1) (hR.below b1 (qn _)) (hT.below b1 (qn _)) (hP.below b1 (qn _)) (hX.below b1 (qn _)) (hS.below b1 (qn _));rw [hw] at CK;have z0:V1.cell? ⟨BX,0,none⟩=some (int i64 wd):=Aa g1 0 rfl;have z1:V1.cell? ⟨BX,1,none⟩=some (int i64 dp):=Aa g1 1 rfl;have z2:V1.cell? ⟨BX,2,none⟩=some (int i64 ta):=Aa g1 2 rfl;have z3:V1.cell? ⟨BX,3,none⟩=some (int i64 tb):=Aa g1 3 rfl;have z4:V1.cell? ⟨BX,4,none⟩=some (int i64 tc):=Aa g1 4 rfl;have z5:V1.cell? ⟨BX,5,none⟩=some (.slice aR rs.length cR):=Aa g1 5 rfl;have z6:V1.cell? ⟨BX,6,none⟩=some (int i64 bars):=Aa g1 6 rfl;have z7:V1.cell? ⟨BX,7,none⟩=some (.slice aT ts.length cT):=Aa g1 7 rfl;have z8:V1.cell? ⟨BX,8,none⟩=some (.slice aP ps.length cP):=Aa g1 8 rfl;have z9:V1.cell? ⟨BX,9,none⟩=some (.slice aX xs.length cX):=Aa g1 9 rfl;have za:V1.cell? ⟨BX,10,none⟩=some (.slice aS ss.length cS):=Aa g1 10 rfl;have hm:=qh CK;have hn:=qh hS;have ho:=qh hH;have hs:=qh b1;have hN:=qh g1;generalize ht:rs.length=nR at *;generalize hZ:ss.length=n at *;have ha:=qh hZ;have h8:IntKind.i64.wrap ((nR:Int)-1)=(nR:Int)-1:=IntWalk.i64_in _ (by omega);have h9:IntKind.i64.wrap (bars-1)=bars-1:=IntWalk.i64_in _ (by omega);clear g1 b1 s1 CK hE hR hT hP hX hS hH hZ ht hw;go_enter Tryz.func15,Tryz.ntmps15
 go_wp2_with (first
  | (go_at_call 17;refine hm.out.mono ?_;rintro e V2 ⟨rfl,hK⟩;have y5:V2.cell? ⟨BX,5,none⟩=some (.slice aR nR cR):=Aa (Ah hK hN.out) 5 rfl;have y6:V2.cell? ⟨BX,6,none⟩=some (int i64 bars):=Aa (Ah hK hN.out) 6 rfl;have ya:V2.cell? ⟨BX,10,none⟩=some (.slice aS n cS):=Aa (Ah hK hN.out) 10 rfl;have HA:=qh (Ah hK hN.out);have hv:=qh (Ag hs.out hK);clear hK z0 z1 z2 z3 z4 z5 z6 z7 z8 z9 za)
  | (go_at_call 44;refine (AQ _ _ _ _).mono ?_;rintro e w' ⟨rfl,rfl⟩;simp only [hr,hb]))
 go_loopw [35,6] (λiv vv wr=>∃(i k c:Nat) (ao:Option Addr),iv=int i64 i∧vv=.slice ao k c∧i≤n∧k≤i∧Hid (wr.ownsRow w.heap.size 54 14 (.slice ao k c) k ((ofL r b (ss.take i)).flatMap Av))∧Hid ((ofL r b (ss.take i)).length=k)∧Hid (Below w.heap.size w wr)) (λiv _ _=>n+1-(intOf iv).toNat)
 case atStart=>exact ⟨0,0,0,none,rfl,rfl,Nat.zero_le _,qn _,qh ⟨by simp [ofL],Or.inl ⟨rfl,rfl⟩⟩,qh (by simp [ofL]),hv⟩
 case round =>
  obtain ⟨i,k,c,ao,rfl,rfl,HB,HC,hO,hL,hB⟩:=hrel;by_cases hi:i<n
  ·obtain ⟨x,hx⟩:∃x,ss[i]?=some x:=⟨_,qg (by rw [ha.out];exact hi)⟩
   have hy:((i:Nat):Int)<(n:Int):=by omega
   obtain ⟨gb,go,rfl,hA,_⟩:=hn.out.block hx;have hD:∀(j:Nat) (u:Value),(Av x)[j]?=some u→wr.cell? ⟨gb,go+i*14+j,none⟩=some u:=λj u hu=>Ad hB.out (hA i x hx j u hu)
   have hF:ofL r b (ss.take (i+1))=ofL r b (ss.take i)++(if x.role=r∧x.bar=b then [x] else []):=by
    unfold ofL;rw [List.take_add_one,hx,List.filter_append]
    congr 1
    by_cases h1:x.role=r<;>by_cases h2:x.bar=b<;>simp [h1,h2]
   cases x with
   | mk s0 s1 s2 s3 s4 s5 s6 s7 s8 s9 s10 s11 s12 s13 =>
   simp only at hF;have c0:wr.cell? ⟨gb,go+i*14,none⟩=some (int i64 s0):=hD 0 _ rfl;have c1:wr.cell? ⟨gb,go+i*14+1,none⟩=some (int i64 s1):=hD 1 _ rfl;have c2:wr.cell? ⟨gb,go+i*14+2,none⟩=some (int i64 s2):=hD 2 _ rfl;have c3:wr.cell? ⟨gb,go+i*14+3,none⟩=some (int i64 s3):=hD 3 _ rfl;have c4:wr.cell? ⟨gb,go+i*14+4,none⟩=some (int i64 s4):=hD 4 _ rfl;have c5:wr.cell? ⟨gb,go+i*14+5,none⟩=some (int i64 s5):=hD 5 _ rfl;have c6:wr.cell? ⟨gb,go+i*14+6,none⟩=some (int i64 s6):=hD 6 _ rfl;have c7:wr.cell? ⟨gb,go+i*14+7,none⟩=some (int i64 s7):=hD 7 _ rfl;have c8:wr.cell? ⟨gb,go+i*14+8,none⟩=some (int i64 s8):=hD 8 _ rfl;have c9:wr.cell? ⟨gb,go+i*14+9,none⟩=some (int i64 s9):=hD 9 _ rfl;have ca:wr.cell? ⟨gb,go+i*14+10,none⟩=some (int i64 s10):=hD 10 _ rfl;have cb:wr.cell? ⟨gb,go+i*14+11,none⟩=some (int i64 s11):=hD 11 _ rfl;have cc:wr.cell? ⟨gb,go+i*14+12,none⟩=some (int i64 s12):=hD 12 _ rfl;have cd:wr.cell? ⟨gb,go+i*14+13,none⟩=some (int i64 s13):=hD 13 _ rfl;obtain ⟨W2,e2,g2,b2,z2⟩:=Af wr #[int i64 s0,int i64 s1,int i64 s2,int i64 s3,int i64 s4,int i64 s5,int i64 s6,int i64 s7,int i64 s8,int i64 s9,int i64 s10,int i64 s11,int i64 s12,int i64 s13] 54;obtain ⟨QB,hz⟩:∃X,wr.heap.size=X:=⟨_,rfl⟩;rw [hz] at g2;have q0:W2.cell? ⟨QB,0,none⟩=some (int i64 s0):=Aa g2 0 rfl;have q1:W2.cell? ⟨QB,1,none⟩=some (int i64 s1):=Aa g2 1 rfl;have q2:W2.cell? ⟨QB,2,none⟩=some (int i64 s2):=Aa g2 2 rfl;have q3:W2.cell? ⟨QB,3,none⟩=some (int i64 s3):=Aa g2 3 rfl;have q4:W2.cell? ⟨QB,4,none⟩=some (int i64 s4):=Aa g2 4 rfl;have q5:W2.cell? ⟨QB,5,none⟩=some (int i64 s5):=Aa g2 5 rfl;have q6:W2.cell? ⟨QB,6,none⟩=some (int i64 s6):=Aa g2 6 rfl;have q7:W2.cell? ⟨QB,7,none⟩=some (int i64 s7):=Aa g2 7 rfl;have q8:W2.cell? ⟨QB,8,none⟩=some (int i64 s8):=Aa g2 8 rfl;have q9:W2.cell? ⟨QB,9,none⟩=some (int i64 s9):=Aa g2 9 rfl;have qa:W2.cell? ⟨QB,10,none⟩=some (int i64 s10):=Aa g2 10 rfl;have qb:W2.cell? ⟨QB,11,none⟩=some (int i64 s11):=Aa g2 11 rfl;have qc:W2.cell? ⟨QB,12,none⟩=some (int i64 s12):=Aa g2 12 rfl;have qd:W2.cell? ⟨QB,13,none⟩=some (int i64 s13):=Aa g2 13 rfl;have hT:=qh hF;have hG:=qh b2;clear hD hF g2 b2 z2 hA hx;by_cases h1:s1=r
   ·subst h1
    by_cases h2:s2=b
    ·subst h2
     obtain ⟨W6,e6,b26,z6,hc⟩:=Qh W2 #[int i64 s0,int i64 s1,int i64 s2,int i64 s3,int i64 s4,int i64 s5,int i64 s6,int i64 s7,int i64 s8,int i64 s9,int i64 s10,int i64 s11,int i64 s12,int i64 s13] (all_oneCell_toArray (N1 ⟨s0,s1,s2,s3,s4,s5,s6,s7,s8,s9,s10,s11,s12,s13⟩));have hQ:=Ag hG.out b26;have hd:=qh (B9 hO.out hQ);have hU:=qh (hB.out.trans (hQ.mono hB.out.size));have he:=qh hc;have h0:=qh e6;have HD:=hQ.size;obtain ⟨i0,hf,hg,hh,hj⟩:=Pn;have hI:=qh (And.intro hf (And.intro hg (And.intro hh hj)));clear hQ b26 z6 hc hf hg hh hj
     go_wp2_with (at_builtin;generalize h3:@wpList=gg);subst h3
     try rw [h0.out]
     refine wpList_append_own _ rfl _ _ 37 rfl w.heap.size 54 i0 _ 14 112 Tryz.underlying37 hI.out.1 hI.out.2.1 hI.out.2.2.1 hI.out.2.2.2 rfl (by decide) _ k _ rfl hd.out ⟨W2.heap.size,0,none⟩ 1 1 [int i64 s0,int i64 s1,int i64 s2,int i64 s3,int i64 s4,int i64 s5,int i64 s6,int i64 s7,int i64 s8,int i64 s9,int i64 s10,int i64 s11,int i64 s12,int i64 s13] rfl rfl (he.out.1 _ rfl) he.out.2 (by unfold maxLen;omega) (by omega) hU.out.size ?_;intro v9 w10 hJ hM h4;obtain ⟨ao9,c9,rfl⟩:=AS hJ;have hV:=qh hJ;have hW:=qh hM;clear hJ hM h4;go_wp2_with fail;go_roundw
     case rel=>exact ⟨i+1,k+1,c9,ao9,by go_num,rfl,by omega,by omega,qh (by
      have h:=hV.out;rw [hT.out,if_pos (by simp),List.flatMap_append]
      exact h),qh (by rw [hT.out,if_pos (by simp),List.length_append,hL.out];rfl),qh (hU.out.grown hW.out hU.out.size λq hq=>(hd.out.lt q hq).1)⟩
     case measure=>simp [intOf];omega
    ·have HE:(s2==b)=false:=by simpa using h2
     go_wp2_with fail;go_roundw
     case rel=>exact ⟨i+1,k,c,ao,by go_num,rfl,by omega,by omega,qh (by rw [hT.out,if_neg (λh=>h2 h.2),List.append_nil];exact B9 hO.out hG.out),qh (by rw [hT.out,if_neg (λh=>h2 h.2),List.append_nil];exact hL.out),qh (hB.out.trans (hG.out.mono hB.out.size))⟩
     case measure=>simp [intOf];omega
   ·have HF:(s1==r)=false:=by simpa using h1
    go_wp2_with fail;go_roundw
    case rel=>exact ⟨i+1,k,c,ao,by go_num,rfl,by omega,by omega,qh (by rw [hT.out,if_neg (λh=>h1 h.1),List.append_nil];exact B9 hO.out hG.out),qh (by rw [hT.out,if_neg (λh=>h1 h.1),List.append_nil];exact hL.out),qh (hB.out.trans (hG.out.mono hB.out.size))⟩
    case measure=>simp [intOf];omega
  ·obtain rfl:i=n:=by omega
   have hy:¬((i:Nat):Int)<(i:Int):=by omega
   have hY:=hO.out;have hk:=hL.out;rw [List.take_of_length_le (by rw [ha.out];exact qn _)] at hY hk;subst hk;have hC:=qh (ho.out wr _ hB.out hY);clear hY
   go_wp2_with (go_at_call 34;refine hC.out.mono ?_;rintro e W3 ⟨rfl,hp⟩);exact hp
theorem Rn(wd dp ta tb tc bars:Int)(aR aT aP aX aS:Option Addr)(cR cT cP cX cS:Nat)(rs:List Rol)(ts:List Tmp)(ps:List Pau)(xs:List Con)(ss:List Sgn)(r b:Int)(w:World)(hE:EnvK w)
  (hR:IsRow CT 4 w (.slice aR rs.length cR) rs) (hT:IsRow BS 3 w (.slice aT ts.length cT) ts) (hP:IsRow Cx 4 w (.slice aP ps.length cP) ps) (hX:IsRow Cw 4 w (.slice aX xs.length cX) xs) (hS:IsRow Av 14 w (.slice aS ss.length cS) ss)
  (hw:Dc ⟨wd,dp,ta,tb,tc,rs,⟨bars,ts,ps,xs⟩,ss⟩=0) (hr:inB r 0 ((rs.length:Int)-1)=false) (hJ:rs.length≤1000000) :
  Calls Tryz.prog 15 #[.agg #[int i64 wd,int i64 dp,int i64 ta,int i64 tb,int i64 tc,.slice aR rs.length cR,int i64 bars,.slice aT ts.length cT,.slice aP ps.length cP,.slice aX xs.length cX,.slice aS ss.length cS],int i64 r,int i64 b] w λe w'=>e=.returned (.tuple #[.slice none 0 0,int i64 1])∧Below w.heap.size w w':=by
 obtain ⟨V1,e1,g1,b1,s1⟩:=Af w #[int i64 wd,int i64 dp,int i64 ta,int i64 tb,int i64 tc,.slice aR rs.length cR,int i64 bars,.slice aT ts.length cT,.slice aP ps.length cP,.slice aX xs.length cX,.slice aS ss.length cS] 39;obtain ⟨BX,hC⟩:∃X,w.heap.size=X:=⟨_,rfl⟩;rw [hC] at g1;have CK:=DN wd dp ta tb tc bars aR aT aP aX aS cR cT cP cX cS rs ts ps xs ss V1 (hE.below b1) (hR.below b1 (qn _)) (hT.below b1 (qn _)) (hP.below b1 (qn _)) (hX.below b1 (qn _)) (hS.below b1 (qn _));rw [hw] at CK;have z0:V1.cell? ⟨BX,0,none⟩=some (int i64 wd):=Aa g1 0 rfl;have z1:V1.cell? ⟨BX,1,none⟩=some (int i64 dp):=Aa g1 1 rfl;have z2:V1.cell? ⟨BX,2,none⟩=some (int i64 ta):=Aa g1 2 rfl;have z3:V1.cell? ⟨BX,3,none⟩=some (int i64 tb):=Aa g1 3 rfl;have z4:V1.cell? ⟨BX,4,none⟩=some (int i64 tc):=Aa g1 4 rfl;have z5:V1.cell? ⟨BX,5,none⟩=some (.slice aR rs.length cR):=Aa g1 5 rfl;have z6:V1.cell? ⟨BX,6,none⟩=some (int i64 bars):=Aa g1 6 rfl;have z7:V1.cell? ⟨BX,7,none⟩=some (.slice aT ts.length cT):=Aa g1 7 rfl;have z8:V1.cell? ⟨BX,8,none⟩=some (.slice aP ps.length cP):=Aa g1 8 rfl;have z9:V1.cell? ⟨BX,9,none⟩=some (.slice aX xs.length cX):=Aa g1 9 rfl;have za:V1.cell? ⟨BX,10,none⟩=some (.slice aS ss.length cS):=Aa g1 10 rfl;have hG:=qh CK;have hK:=qh hS;have hH:=qh b1;have hB:=qh g1;generalize hI:rs.length=nR at *;generalize hD:ss.length=n at *;have hL:=qh hD;have hM:IntKind.i64.wrap ((nR:Int)-1)=(nR:Int)-1:=IntWalk.i64_in _ (by omega);clear g1 b1 s1 CK hE hR hT hP hX hS hD hI hw;go_enter Tryz.func15,Tryz.ntmps15
 go_wp2_with (first
  | (go_at_call 17;refine hG.out.mono ?_;rintro e V2 ⟨rfl,hA⟩;have y5:V2.cell? ⟨BX,5,none⟩=some (.slice aR nR cR):=Aa (Ah hA hB.out) 5 rfl;have y6:V2.cell? ⟨BX,6,none⟩=some (int i64 bars):=Aa (Ah hA hB.out) 6 rfl;have ya:V2.cell? ⟨BX,10,none⟩=some (.slice aS n cS):=Aa (Ah hA hB.out) 10 rfl;have hN:=qh (Ah hA hB.out);have hF:=qh (Ag hH.out hA);clear hA z0 z1 z2 z3 z4 z5 z6 z7 z8 z9 za)
  | (go_at_call 44;refine (AQ _ _ _ _).mono ?_;rintro e w' ⟨rfl,rfl⟩;simp only [hr]))
 go_ret2;exact ⟨rfl,by first|exact hF.out|(have h:=hF.out;rw [hC] at h;exact h)⟩
def UR:N8:=⟨⟨0,0,0,0,0,0,0,0,0,0,0,1,0,0⟩,by decide⟩
def ixR(L:List Sgn)(h:∀s∈L,Bh s.fn s.fd=true)(i:Nat):N8:=if hi:i<L.length then ⟨L[i],h _ (List.getElem_mem hi)⟩ else UR
theorem MJ{L:List Sgn}{h:∀s∈L,Bh s.fn s.fd=true}{i:Nat}(hi:i<L.length):(ixR L h i).1=ixS L i:=by
 have e:ixR L h i=⟨L[i],h _ (List.getElem_mem hi)⟩:=dif_pos hi;rw [e];unfold ixS;rw [qg hi]
 rfl
theorem Ro(L:List Sgn)(hL:∀s∈L,Bh s.fn s.fd=true)(hl:L.length≤4096)(w W:World)(v:Value)(hb:Below w.heap.size w W)(ho:W.ownsRow w.heap.size 54 14 v L.length (L.flatMap Av)) :
  Calls Tryz.prog 34 #[v,.func (.func 45) #[] #[]] W λe w'=>e=.returned (.tuple #[])∧Below w.heap.size w w'∧∃Y:Nat→N8,SgnRow w.heap.size w' v L.length (λi=>(Y i).1)∧Stb CC (ixR L hL) Y 0 L.length∧Srt CC Y 0 L.length:=by
 rcases J1 ho with ⟨h0,ao,c,rfl⟩|⟨g,cap,rfl,hg,hr⟩
 ·refine (Jg ao c _ W).mono ?_
  rintro e w' ⟨rfl,rfl⟩;exact ⟨rfl,hb,ixR L hL,Or.inl ⟨h0,ao,c,rfl⟩,Stb.refl _ _ _ _,λi j _ _ h=>by omega⟩
 ·have hA:RowS (·.1) g 0 L.length (ixR L hL) W:=⟨λi hi=>by rw [MJ hi];exact hr.at_ i hi,hr.free⟩
  refine (L2 (·.1) CC 45 Uv g 0 cap L.length (ixR L hL) W (by omega) hA).mono ?_;rintro e w' ⟨rfl,Y,h1,h2,h3,h4⟩;exact ⟨rfl,hb.trans (h2.below hg hb.size),Y,Or.inr ⟨g,cap,rfl,hg,h1.at_,h1.free⟩,h3,h4⟩
def OfP(r b:Int)(ss:List Sgn)(hF:∀s∈ofL r b ss,Bh s.fn s.fd=true)(w:World)(e:Ending)(w':World):Prop :=
 Below w.heap.size w w'∧∃(v:Value) (Y:Nat→N8),e=.returned (.tuple #[v,int i64 0])∧SgnRow w.heap.size w' v (ofL r b ss).length (λi=>(Y i).1)∧Stb CC (ixR (ofL r b ss) hF) Y 0 (ofL r b ss).length∧Srt CC Y 0 (ofL r b ss).length
theorem Rm(wd dp ta tb tc bars:Int)(aR aT aP aX aS:Option Addr)(cR cT cP cX cS:Nat)(rs:List Rol)(ts:List Tmp)(ps:List Pau)(xs:List Con)(ss:List Sgn)(r b:Int)(w:World)(hE:EnvK w)
  (hR:IsRow CT 4 w (.slice aR rs.length cR) rs) (hT:IsRow BS 3 w (.slice aT ts.length cT) ts) (hP:IsRow Cx 4 w (.slice aP ps.length cP) ps) (hX:IsRow Cw 4 w (.slice aX xs.length cX) xs) (hS:IsRow Av 14 w (.slice aS ss.length cS) ss)
  (hw:Dc ⟨wd,dp,ta,tb,tc,rs,⟨bars,ts,ps,xs⟩,ss⟩=0) (hr:inB r 0 ((rs.length:Int)-1)=true) (hb:inB b 0 (bars-1)=true) (hB:0≤bars∧bars≤1000000) (hC:rs.length≤1000000) (hA:ss.length≤4096)
  (hF:∀s∈ofL r b ss,Bh s.fn s.fd=true) :
  Calls Tryz.prog 15 #[.agg #[int i64 wd,int i64 dp,int i64 ta,int i64 tb,int i64 tc,.slice aR rs.length cR,int i64 bars,.slice aT ts.length cT,.slice aP ps.length cP,.slice aX xs.length cX,.slice aS ss.length cS],int i64 r,int i64 b] w (OfP r b ss hF w) :=
 NM wd dp ta tb tc bars aR aT aP aX aS cR cT cP cX cS rs ts ps xs ss r b w hE _ hR hT hP hX hS hw hr hb hB hC hA λW v h1 h2 =>
  (Ro (ofL r b ss) hF (Nat.le_trans (List.length_filter_le _ _) hA) w W v h1 h2).mono λe w' ⟨h3,h4,Y,h5,h6,h7⟩=>⟨h3,h4,v,Y,rfl,h5,h6,h7⟩
end
section
open Go Go.RowKit
theorem Fy{roles bars:Int}:∀{last:Int} {l:List Sgn},BV roles bars last l=true→∀s∈l,EW s roles bars=true
 | _,[],_,_,h=>by simp at h
 | last,x::r,h,s,hs=>by
  simp only [BV,Bool.and_eq_true] at h;rcases List.mem_cons.1 hs with rfl|hs
  ·have:=h.1
   simp only [Iq,Bool.and_eq_true] at this;exact this.2
  ·exact Fy h.2 s hs
theorem Gh{roles bars:Int}:∀{last:Int} {l:List Sgn},BV roles bars last l=true→∀s∈l,last<s.id
 | _,[],_,_,h=>by simp at h
 | last,x::r,h,s,hs=>by
  simp only [BV,Bool.and_eq_true] at h;have h1:=h.1;simp only [Iq,Bool.and_eq_true,decide_eq_true_eq] at h1;rcases List.mem_cons.1 hs with rfl|hs
  ·exact h1.1.1
  ·have:=Gh h.2 s hs
   omega
theorem Gi{roles bars:Int}:∀{last:Int} {l:List Sgn},BV roles bars last l=true→l.Pairwise (λx y=>x.id<y.id)
 | _,[],_=>List.Pairwise.nil
 | last,x::r,h=>by
  simp only [BV,Bool.and_eq_true] at h;exact List.pairwise_cons.2 ⟨Gh h.2,Gi h.2⟩
theorem Jo{w:Wrk}(h:Dc w=0):F8 w=true∧C8 w.clock=0∧Gt w=true:=by
 unfold Dc at h
 split at h
 ·rename_i h1
  split at h
  ·rename_i h2;exact absurd h h2
  ·rename_i h2
   split at h
   ·rename_i h3;exact ⟨h1,by simpa using h2,h3⟩
   ·omega
 ·omega
theorem Mc{x:Sgn}{roles bars:Int}(h:EW x roles bars=true):Bh x.fn x.fd=true:=by
 simp only [EW,SG,Bool.and_eq_true] at h;exact h.2.1.1.1.1
theorem Iw{w:Wrk}(h:Dc w=0):BV w.roles.length w.clock.bars (-1) w.signs=true:=by
 have:=(Jo h).2.2;simp only [Gt,Bool.and_eq_true] at this;exact this.2
theorem Ss{w:Wrk}(h:Dc w=0)(r b:Int):∀s∈ofL r b w.signs,Bh s.fn s.fd=true:=λs hs =>
 Mc (Fy (Iw h) s (List.mem_filter.1 hs).1)
end
section
open Go Go.RowKit Go.Shelf Go.Deep
section
variable {α:Type} {lt:α→α→Bool}
theorem Ql(h:SwO lt){R:α→α→Prop}{L L':List α}(hs:L'.Pairwise (λx y=>lt y x=false))(hf:∀x,L'.filter (eqv lt x)=L.filter (eqv lt x))(hR:L.Pairwise R):L'.Pairwise (λx y=>lt x y=true∨(lt x y=false∧lt y x=false∧R x y)):=by
 rw [List.pairwise_iff_forall_sublist] at hs hR ⊢;intro x y hA;have h1:=hs hA
 cases h2:lt x y with
 | true=>exact Or.inl rfl
 | false =>
  refine Or.inr ⟨rfl,h1,hR ?_⟩
  have e:[x,y].filter (eqv lt x)=[x,y]:=by
   rw [List.filter_cons_of_pos (Df h x),List.filter_cons_of_pos (by simp [eqv,h1,h2]),List.filter_nil]
  have:=hA.filter (eqv lt x);rw [e,hf x] at this;exact this.trans List.filter_sublist
theorem Sb(h:SwO lt){L L':List α}(hf:∀x,L'.filter (eqv lt x)=L.filter (eqv lt x))(x:α):x∈L'↔x∈L:=by
 have a:∀l:List α,x∈l↔x∈l.filter (eqv lt x):=λl=>by
  rw [List.mem_filter];exact ⟨λhx=>⟨hx,Df h x⟩,λhx=>hx.1⟩
 rw [a,hf x,← a]
end
theorem JU(L:List Sgn)(hL:∀s∈L,Bh s.fn s.fd=true):(seg (ixR L hL) 0 L.length).map (·.1)=L:=by
 apply List.ext_getElem
 ·simp [seg]
 ·intro i h1 h2
  simp only [seg,List.map_map,List.getElem_map,List.getElem_range',Function.comp];rw [MJ (by simpa using h2)];simp [ixS,qg h2]
def Sz(x y:Sgn):Prop:=x.fn*y.fd<y.fn*x.fd∨(x.fn*y.fd=y.fn*x.fd∧x.id<y.id)
def U8(r b:Int)(ss:List Sgn)(w:World)(e:Ending)(w':World):Prop :=
 Below w.heap.size w w'∧∃(ao:Option Addr) (c:Nat) (l:List Sgn),e=.returned (.tuple #[.slice ao l.length c,int i64 0])∧IsRow Av 14 w' (.slice ao l.length c) l∧l.length=(ofL r b ss).length∧(∀x,x∈l↔x∈ofL r b ss)∧l.Pairwise Sz
theorem Ts(wd dp ta tb tc bars:Int)(aR aT aP aX aS:Option Addr)(cR cT cP cX cS:Nat)(rs:List Rol)(ts:List Tmp)(ps:List Pau)(xs:List Con)(ss:List Sgn)(r b:Int)(w:World)(hE:EnvK w)
  (hR:IsRow CT 4 w (.slice aR rs.length cR) rs) (hT:IsRow BS 3 w (.slice aT ts.length cT) ts) (hP:IsRow Cx 4 w (.slice aP ps.length cP) ps) (hX:IsRow Cw 4 w (.slice aX xs.length cX) xs) (hS:IsRow Av 14 w (.slice aS ss.length cS) ss)
  (hw:Dc ⟨wd,dp,ta,tb,tc,rs,⟨bars,ts,ps,xs⟩,ss⟩=0) (hr:inB r 0 ((rs.length:Int)-1)=true) (hb:inB b 0 (bars-1)=true) :
  Calls Tryz.prog 15 #[.agg #[int i64 wd,int i64 dp,int i64 ta,int i64 tb,int i64 tc,.slice aR rs.length cR,int i64 bars,.slice aT ts.length cT,.slice aP ps.length cP,.slice aX xs.length cX,.slice aS ss.length cS],int i64 r,int i64 b] w (U8 r b ss w):=by
 obtain ⟨hl,hc,_⟩:=Jo hw;have hN:=Fc hc
 have hG:rs.length≤64∧ss.length≤4096:=by
  unfold F8 at hl;simp only [Bool.and_eq_true,decide_eq_true_eq] at hl;exact hl
 have hF:=Ss hw r b;have hB:(ofL r b ss).Pairwise (λx y=>x.id<y.id):=(Gi (Iw hw)).sublist List.filter_sublist;refine (Rm wd dp ta tb tc bars aR aT aP aX aS cR cT cP cX cS rs ts ps xs ss r b w hE hR hT hP hX hS hw hr hb (by omega) (by omega) hG.2 hF).mono ?_;rintro e w' ⟨h1,v,Y,rfl,hA,hI,hJ⟩;have hn:(ofL r b ss).length≤maxLen:=Nat.le_trans (Nat.le_trans (List.length_filter_le _ _) hG.2) (by decide);have hA:=hA.isRow hn;have em:seg (λi=>(Y i).1) 0 (ofL r b ss).length=(seg Y 0 (ofL r b ss).length).map (·.1):=by simp [seg]
 rw [em] at hA
 have hf:∀x,(seg Y 0 (ofL r b ss).length).filter (eqv CC x)=(seg (ixR (ofL r b ss) hF) 0 (ofL r b ss).length).filter (eqv CC x):=λx=>by
  have:=hI.cls x
  rwa [Nat.sub_zero] at this
 have hC:=Sb ER hf
 have hK:(seg (ixR (ofL r b ss) hF) 0 (ofL r b ss).length).Pairwise (λx y=>x.1.id<y.1.id):=by
  have:=List.pairwise_map.1 (by rw [JU];exact hB:((seg (ixR (ofL r b ss) hF) 0 (ofL r b ss).length).map (·.1)).Pairwise (λx y=>x.id<y.id));exact this
 have hL:=Ql ER (L3 hJ) hf hK;obtain ⟨ao,c,rfl,hD,hM⟩:=hA;refine ⟨h1,ao,c,(seg Y 0 (ofL r b ss).length).map (·.1),rfl,⟨ao,c,rfl,hD,hM⟩,by simp [seg],λx=>?_,?_⟩
 ·constructor
  ·intro hx
   obtain ⟨y,hy,rfl⟩:=List.mem_map.1 hx;have:=List.mem_map_of_mem (f:=(·.1)) ((hC y).1 hy)
   rwa [JU] at this
  ·intro hx
   have hH:=hx;rw [← JU (ofL r b ss) hF] at hH;obtain ⟨y,hy,rfl⟩:=List.mem_map.1 hH;exact List.mem_map_of_mem ((hC y).2 hy)
 ·rw [List.pairwise_map]
  refine hL.imp λ{x y} h=>?_
  unfold CC at h;simp only [decide_eq_true_eq,decide_eq_false_iff_not] at h;unfold Sz;omega
end
section
open Go Go.RowKit Go.Shelf
theorem Cg(w:World):Calls Tryz.prog 24 #[] w λe w'=>e=.returned (.agg #[int i64 0,int i64 1])∧Below w.heap.size w w':=by
 obtain ⟨W1,e1,g1,b1,s1⟩:=Af w #[int i64 0,int i64 1] 52;have c0:W1.cell? ⟨w.heap.size,0,none⟩=some (int i64 0):=Aa g1 0 rfl;have c1:W1.cell? ⟨w.heap.size,1,none⟩=some (int i64 1):=Aa g1 1 rfl;have HB:=qh b1;clear g1 b1 s1;go_enter Tryz.func24,Tryz.ntmps24;go_wp2_with fail;refine bodyPost_ret (v:=.agg #[int i64 0,int i64 1]) ?_ rfl ⟨rfl,HB.out⟩;simp [results,Tryz.f24,c0,c1,go_sem]
theorem FT(w:World):Calls Tryz.prog 25 #[] w λe w'=>e=.returned (.agg #[int i64 1,int i64 1])∧Below w.heap.size w w':=by
 obtain ⟨W1,e1,g1,b1,s1⟩:=Af w #[int i64 1,int i64 1] 52;have c0:W1.cell? ⟨w.heap.size,0,none⟩=some (int i64 1):=Aa g1 0 rfl;have c1:W1.cell? ⟨w.heap.size,1,none⟩=some (int i64 1):=Aa g1 1 rfl;have HB:=qh b1;clear g1 b1 s1;go_enter Tryz.func25,Tryz.ntmps25;go_wp2_with fail;refine bodyPost_ret (v:=.agg #[int i64 1,int i64 1]) ?_ rfl ⟨rfl,HB.out⟩;simp [results,Tryz.f25,c0,c1,go_sem]
end
section
open Go Go.RowKit Go.Shelf Go.Deep
theorem JV{W:World}{b i:Nat}{cs:Array Value}{t:TypeId}{v:Value}(h:W.heap[b]?=some (.cells cs t (0,0)))(hv:cs[i]?=some v):W.setCell ⟨b,i,none⟩ v=W:=by
 have e:(W.setCell ⟨b,i,none⟩ v).heap=W.heap:=by
  apply Array.ext_getElem?;intro k;by_cases hk:k=b
  ·subst hk
   rw [CY v h,h]
   congr 2
   apply Array.ext_getElem?;intro j;rw [Array.getElem?_setIfInBounds]
   split
   ·rename_i hA
    subst hA;rw [hv]
    split
    ·rfl
    ·rename_i hn
     rw [Array.getElem?_eq_none (by omega)] at hv;cases hv
   ·rfl
  ·exact AX v hk
 cases W;simp only [World.setCell] at e ⊢;rw [e]
structure Sm19(R T M1 M2 J I0 I1 F D:Nat)(bar:Int)(W:World):Prop where
 hR:W.heap[R]?=some (.cells #[sv [97],int i64 2,int i64 2,int i64 0,sv [98],int i64 5,int i64 5,int i64 4] 73 (0,0))
 hT:W.heap[T]?=some (.cells #[int i64 0,int i64 4,int i64 0] 76 (0,0))
 hM1:W.heap[M1]?=some (.cells #[int i64 1,int i64 1,int i64 1,int i64 1,int i64 0,int i64 2,sv [],int i64 0,int i64 0,int i64 1,int i64 1,int i64 2] 92 (0,0))
 hM2:W.heap[M2]?=some (.cells #[int i64 3,int i64 6,int i64 0,int i64 0,int i64 0,int i64 3,sv [],int i64 0,int i64 0,int i64 1,int i64 1,int i64 1] 92 (0,0))
 hJ:W.heap[J]?=some (.cells #[int i64 1,int i64 0,sv [],int i64 0,.slice none 0 0,.slice (some ⟨M2,0,none⟩) 1 1] 121 (0,0))
 hI0:W.heap[I0]?=some (.cells #[int i64 1,int i64 0,sv [],int i64 0,.slice none 0 0,.slice (some ⟨M1,0,none⟩) 1 1,int i64 3,int i64 0,sv [],int i64 0,.slice (some ⟨J,0,none⟩) 1 1,.slice none 0 0] 121 (0,0))
 hI1:W.heap[I1]?=some (.cells #[int i64 4,int i64 0,sv [112],int i64 0,.slice none 0 0,.slice none 0 0] 121 (0,0))
 hF:W.heap[F]?=some (.cells #[sv [112],.slice (some ⟨I0,0,none⟩) 2 2,sv [113],.slice (some ⟨I1,0,none⟩) 1 1] 58 (0,0))
 hD:W.heap[D]?=some (.cells #[sv [97],int i64 0,sv [112],int i64 0,int i64 0,.bool false,sv [98],int i64 1,sv [113],int i64 1,int i64 bar,.bool true] 64 (0,0))
theorem Em(w:World):Calls Tryz.prog 23 #[] w λe w'=>∃R T M1 M2 J I0 I1 F D:Nat,e=.returned (.agg #[sv [119],int i64 10,int i64 10,int i64 3,int i64 1,int i64 0,.slice (some ⟨R,0,none⟩) 2 2,.slice (some ⟨T,0,none⟩) 1 1,.slice none 0 0,.slice none 0 0,.slice (some ⟨F,0,none⟩) 2 2,.slice (some ⟨D,0,none⟩) 2 2])∧Sm19 R T M1 M2 J I0 I1 F D 1 w'∧w.heap.size≤D∧Below w.heap.size w w':=by
 obtain ⟨A0,xA0,gA0,bA0,sA0⟩:=Af w CJ 30;have GA0:=qh gA0;have BA0:=qh bA0;clear gA0 bA0 sA0;unfold CJ at xA0;have st0:True:=trivial;go_enter Tryz.func23,Tryz.ntmps23
 go_wp2_with (first
  | (have q:=st0;go_at_call 24;refine (Cg _).mono ?_;rintro e V1 ⟨rfl,hA⟩;have BV1:=qh hA;clear hA q st0;have st1:True:=trivial;obtain ⟨B1,xB1,gB1,bB1,sB1⟩:=Af V1 #[int i64 1,int i64 1,int i64 1,int i64 1,int i64 0,int i64 2,sv [],int i64 0,int i64 0,int i64 1,int i64 1,int i64 2] 92;have GB1:=qh gB1;have BB1:=qh bB1;clear gB1 bB1 sB1)
  | (have q:=st1;go_at_call 24;refine (Cg _).mono ?_;rintro e V2 ⟨rfl,hA⟩;have BV2:=qh hA;clear hA q st1;have st2:True:=trivial)
  | (have q:=st2;go_at_call 25;refine (FT _).mono ?_;rintro e V3 ⟨rfl,hA⟩;have BV3:=qh hA;clear hA q st2;have st3:True:=trivial;obtain ⟨B2,xB2,gB2,bB2,sB2⟩:=Af V3 #[int i64 3,int i64 6,int i64 0,int i64 0,int i64 0,int i64 3,sv [],int i64 0,int i64 0,int i64 1,int i64 1,int i64 1] 92;have GB2:=qh gB2;have BB2:=qh bB2;clear gB2 bB2 sB2)
  | (have q:=st3;clear q;refine wpList_load_row rfl 92 _ rfl V1.heap.size rfl 92 #[int i64 1,int i64 1,int i64 1,int i64 1,int i64 0,int i64 2,sv [],int i64 0,int i64 0,int i64 1,int i64 1,int i64 2] (0,0) _ (Ah (Ag BV2.out (Ag BV3.out BB2.out)) GB1.out) Tryz.underlying92 rfl (by kernel_rfl) ?_;simp only [Act.put,qD,qE,qF];clear st3;have st4:True:=trivial;obtain ⟨M1,xM1,gM1,bM1,sM1⟩:=Af B2 #[int i64 1,int i64 1,int i64 1,int i64 1,int i64 0,int i64 2,sv [],int i64 0,int i64 0,int i64 1,int i64 1,int i64 2] 92;have GM1:=qh gM1;have BM1:=qh bM1;clear gM1 bM1 sM1;obtain ⟨B3,xB3,gB3,bB3,sB3⟩:=Af M1 #[int i64 1,int i64 0,sv [],int i64 0,.slice none 0 0,.slice (some ⟨B2.heap.size,0,none⟩) 1 1] 121;have GB3:=qh gB3;have BB3:=qh bB3;clear gB3 bB3 sB3)
  | (have q:=st4;clear q;refine wpList_load_row rfl 92 _ rfl V3.heap.size rfl 92 #[int i64 3,int i64 6,int i64 0,int i64 0,int i64 0,int i64 3,sv [],int i64 0,int i64 0,int i64 1,int i64 1,int i64 1] (0,0) _ (Ah (Ag BM1.out BB3.out) GB2.out) Tryz.underlying92 rfl (by kernel_rfl) ?_;simp only [Act.put,qD,qE,qF];clear st4;have st5:True:=trivial;obtain ⟨M2,xM2,gM2,bM2,sM2⟩:=Af B3 #[int i64 3,int i64 6,int i64 0,int i64 0,int i64 0,int i64 3,sv [],int i64 0,int i64 0,int i64 1,int i64 1,int i64 1] 92;have GM2:=qh gM2;have BM2:=qh bM2;clear gM2 bM2 sM2;obtain ⟨J,xJ,gJ,bJ,sJ⟩:=Af M2 #[int i64 1,int i64 0,sv [],int i64 0,.slice none 0 0,.slice (some ⟨B3.heap.size,0,none⟩) 1 1] 121;have GJ:=qh gJ;have BJ:=qh bJ;clear gJ bJ sJ;obtain ⟨B4,xB4,gB4,bB4,sB4⟩:=Af J #[int i64 3,int i64 0,sv [],int i64 0,.slice (some ⟨M2.heap.size,0,none⟩) 1 1,.slice none 0 0] 121;have GB4:=qh gB4;have BB4:=qh bB4;clear gB4 bB4 sB4;have c4:B4.cell? ⟨J.heap.size,5,none⟩=some (.slice none 0 0):=Aa GB4.out 5 rfl;have f4:B4.frozen? ⟨J.heap.size,5,none⟩=false:=(show FreeB B4 J.heap.size from ⟨_,_,GB4.out⟩).free 5;have e4:B4.setCell ⟨J.heap.size,5,none⟩ (.slice none 0 0)=B4:=JV (i:=5) GB4.out rfl;obtain ⟨R,xR,gR,bR,sR⟩:=Af B4 #[sv [97],int i64 2,int i64 2,int i64 0,sv [98],int i64 5,int i64 5,int i64 4] 73;have GR:=qh gR;have BR:=qh bR;clear gR bR sR;obtain ⟨T,xT,gT,bT,sT⟩:=Af R #[int i64 0,int i64 4,int i64 0] 76;have GT:=qh gT;have BT:=qh bT;clear gT bT sT)
  | (have q:=st5;clear q;refine wpList_load_row rfl 121 _ rfl M1.heap.size rfl 121 #[int i64 1,int i64 0,sv [],int i64 0,.slice none 0 0,.slice (some ⟨B2.heap.size,0,none⟩) 1 1] (0,0) _ (Ah (Ag BM2.out (Ag BJ.out (Ag BB4.out (Ag BR.out BT.out)))) GB3.out) Tryz.underlying121 rfl (by kernel_rfl) ?_;simp only [Act.put,qD,qE,qF];clear st5;have st6:True:=trivial)
  | (have q:=st6;clear q;refine wpList_load_row rfl 121 _ rfl J.heap.size rfl 121 #[int i64 3,int i64 0,sv [],int i64 0,.slice (some ⟨M2.heap.size,0,none⟩) 1 1,.slice none 0 0] (0,0) _ (Ah (Ag BR.out BT.out) GB4.out) Tryz.underlying121 rfl (by kernel_rfl) ?_;simp only [Act.put,qD,qE,qF];clear st6;have st7:True:=trivial;obtain ⟨I0,xI0,gI0,bI0,sI0⟩:=Af T #[int i64 1,int i64 0,sv [],int i64 0,.slice none 0 0,.slice (some ⟨B2.heap.size,0,none⟩) 1 1,int i64 3,int i64 0,sv [],int i64 0,.slice (some ⟨M2.heap.size,0,none⟩) 1 1,.slice none 0 0] 121;have GI0:=qh gI0;have BI0:=qh bI0;clear gI0 bI0 sI0;obtain ⟨I1,xI1,gI1,bI1,sI1⟩:=Af I0 #[int i64 4,int i64 0,sv [112],int i64 0,.slice none 0 0,.slice none 0 0] 121;have GI1:=qh gI1;have BI1:=qh bI1;clear gI1 bI1 sI1;obtain ⟨F,xF,gF,bF,sF⟩:=Af I1 #[sv [112],.slice (some ⟨T.heap.size,0,none⟩) 2 2,sv [113],.slice (some ⟨I0.heap.size,0,none⟩) 1 1] 58;have GF:=qh gF;have BF:=qh bF;clear gF bF sF;obtain ⟨D,xD,gD,bD,sD⟩:=Af F #[sv [97],int i64 0,sv [112],int i64 0,int i64 0,.bool false,sv [98],int i64 1,sv [113],int i64 1,int i64 1,.bool true] 64;have GD:=qh gD;have BD:=qh bD;clear gD bD sD)
  | (have q:=st7;clear q;refine wpList_store_row rfl 30 _ _ rfl w.heap.size #[sv [119],int i64 10,int i64 10,int i64 3,int i64 1,int i64 0,.slice (some ⟨B4.heap.size,0,none⟩) 2 2,.slice (some ⟨R.heap.size,0,none⟩) 1 1,.slice none 0 0,.slice none 0 0,.slice (some ⟨I1.heap.size,0,none⟩) 2 2,.slice (some ⟨F.heap.size,0,none⟩) 2 2] rfl rfl 30 _ (Ah (Ag BV1.out (Ag BB1.out (Ag BV2.out (Ag BV3.out (Ag BB2.out (Ag BM1.out (Ag BB3.out (Ag BM2.out (Ag BJ.out (Ag BB4.out (Ag BR.out (Ag BT.out (Ag BI0.out (Ag BI1.out (Ag BF.out BD.out))))))))))))))) GA0.out) (by kernel_rfl) rfl (by simp [Value.oneCell']) ?_;obtain ⟨W3,hB,gW3,bW3⟩:=AO (cs:=#[sv [119],int i64 10,int i64 10,int i64 3,int i64 1,int i64 0,.slice (some ⟨B4.heap.size,0,none⟩) 2 2,.slice (some ⟨R.heap.size,0,none⟩) 1 1,.slice none 0 0,.slice none 0 0,.slice (some ⟨I1.heap.size,0,none⟩) 2 2,.slice (some ⟨F.heap.size,0,none⟩) 2 2]) (Ah (Ag BV1.out (Ag BB1.out (Ag BV2.out (Ag BV3.out (Ag BB2.out (Ag BM1.out (Ag BB3.out (Ag BM2.out (Ag BJ.out (Ag BB4.out (Ag BR.out (Ag BT.out (Ag BI0.out (Ag BI1.out (Ag BF.out BD.out))))))))))))))) GA0.out) (Ag BA0.out (Ag BV1.out (Ag BB1.out (Ag BV2.out (Ag BV3.out (Ag BB2.out (Ag BM1.out (Ag BB3.out (Ag BM2.out (Ag BJ.out (Ag BB4.out (Ag BR.out (Ag BT.out (Ag BI0.out (Ag BI1.out (Ag BF.out BD.out)))))))))))))))) (qn _);rw [hB];have hC:=qh hB;have hD:=qh gW3;have hE:=qh bW3;clear hB gW3 bW3 st7))
 have o3:∀c,c≠w.heap.size→W3.heap[c]?=D.heap[c]?:=λc hc=>by
  rw [← hC.out];simp only [World.setRow];rw [Array.getElem?_modify,if_neg (λe=>hc e.symm)]
 have q0:=(qs.1 GA0.out).1;have q1:=BV1.out.size;have q2:=BV2.out.size;have q3:=BV3.out.size;have zB1:=(qs.1 GB1.out).1;have zB2:=(qs.1 GB2.out).1;have zM1:=(qs.1 GM1.out).1;have zB3:=(qs.1 GB3.out).1;have zM2:=(qs.1 GM2.out).1;have zJ:=(qs.1 GJ.out).1;have zB4:=(qs.1 GB4.out).1;have zR:=(qs.1 GR.out).1;have zT:=(qs.1 GT.out).1;have zI0:=(qs.1 GI0.out).1;have zI1:=(qs.1 GI1.out).1;have zF:=(qs.1 GF.out).1;have zD:=(qs.1 GD.out).1;have yB1:=BB1.out.size;have yB2:=BB2.out.size;have yM1:=BM1.out.size;have yB3:=BB3.out.size;have yM2:=BM2.out.size;have yJ:=BJ.out.size;have yB4:=BB4.out.size;have yR:=BR.out.size;have yT:=BT.out.size;have yI0:=BI0.out.size;have yI1:=BI1.out.size;have yF:=BF.out.size;have yD:=BD.out.size;refine ⟨rfl,.agg #[sv [119],int i64 10,int i64 10,int i64 3,int i64 1,int i64 0,.slice (some ⟨B4.heap.size,0,none⟩) 2 2,.slice (some ⟨R.heap.size,0,none⟩) 1 1,.slice none 0 0,.slice none 0 0,.slice (some ⟨I1.heap.size,0,none⟩) 2 2,.slice (some ⟨F.heap.size,0,none⟩) 2 2],?_,B4.heap.size,R.heap.size,B2.heap.size,B3.heap.size,M2.heap.size,T.heap.size,I0.heap.size,I1.heap.size,F.heap.size,rfl,⟨(o3 _ (by omega)).trans (Ah (Ag BT.out (Ag BI0.out (Ag BI1.out (Ag BF.out BD.out)))) GR.out),(o3 _ (by omega)).trans (Ah (Ag BI0.out (Ag BI1.out (Ag BF.out BD.out))) GT.out),(o3 _ (by omega)).trans (Ah (Ag BB3.out (Ag BM2.out (Ag BJ.out (Ag BB4.out (Ag BR.out (Ag BT.out (Ag BI0.out (Ag BI1.out (Ag BF.out BD.out))))))))) GM1.out),(o3 _ (by omega)).trans (Ah (Ag BJ.out (Ag BB4.out (Ag BR.out (Ag BT.out (Ag BI0.out (Ag BI1.out (Ag BF.out BD.out))))))) GM2.out),(o3 _ (by omega)).trans (Ah (Ag BB4.out (Ag BR.out (Ag BT.out (Ag BI0.out (Ag BI1.out (Ag BF.out BD.out)))))) GJ.out),(o3 _ (by omega)).trans (Ah (Ag BI1.out (Ag BF.out BD.out)) GI0.out),(o3 _ (by omega)).trans (Ah (Ag BF.out BD.out) GI1.out),(o3 _ (by omega)).trans (Ah BD.out GF.out),(o3 _ (by omega)).trans GD.out⟩,by omega,hE.out⟩;clear o3 q0 q1 q2 q3 zB1 zB2 zM1 zB3 zM2 zJ zB4 zR zT zI0 zI1 zF zD yB1 yB2 yM1 yB3 yM2 yJ yB4 yR yT yI0 yI1 yF yD xA0 xB1 xB2 xM1 xB3 xM2 xJ xB4 xR xT xI0 xI1 xF xD;have hX:=hD.out;have u0:=Aa hX 0 rfl;have u1:=Aa hX 1 rfl;have u2:=Aa hX 2 rfl;have u3:=Aa hX 3 rfl;have u4:=Aa hX 4 rfl;have u5:=Aa hX 5 rfl;have u6:=Aa hX 6 rfl;have u7:=Aa hX 7 rfl;have u8:=Aa hX 8 rfl;have u9:=Aa hX 9 rfl;have u10:=Aa hX 10 rfl;have u11:=Aa hX 11 rfl;clear hX;simp [results,Tryz.results23,go_sem,u0,u1,u2,u3,u4,u5,u6,u7,u8,u9,u10,u11]
end
end Go.Proofs.YtbkemlgfdklpfaaGreatDoor
