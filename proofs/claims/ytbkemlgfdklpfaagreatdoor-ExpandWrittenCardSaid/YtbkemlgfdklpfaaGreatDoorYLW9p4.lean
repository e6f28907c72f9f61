/- The walk of the statement: part 4. -/
import Derived.Test.YtbkemlgfdklpfaaGreatDoorYLW9p3
import Derived.Test.YtbkemlgfdklpfaaGreatDoorZ31
import Derived.Test.YtbkemlgfdklpfaaGreatDoorZ40
import Derived.Test.YtbkemlgfdklpfaaGreatDoorZ15
import Derived.Test.YtbkemlgfdklpfaaGreatDoorYLW9p1
import Derived.Test.YtbkemlgfdklpfaaGreatDoorYLW9p2
import Derived.Test.YtbkemlgfdklpfaaGreatDoorZ34
import Derived.Test.YtbkemlgfdklpfaaGreatDoorZ4
set_option linter.unusedVariables false
set_option linter.unusedSimpArgs false
set_option maxRecDepth 100000
set_option maxHeartbeats 16000000
namespace Go.Proofs.YtbkemlgfdklpfaaGreatDoor
open Go.Value (int)
open Go.IntKind (i64)
section
open Go Go.RowKit Go.Shelf Go.Deep
theorem Xb(w:World)(B:Nat)(e:TypeId)(size:Nat)(hB:B≤w.heap.size):(w.alloc (.cells #[] e)).ownsRow B e size (.slice (some ⟨w.heap.size,0,none⟩) 0 0) 0 [] :=
 ⟨by simp,Or.inr ⟨w.heap.size,0,#[],rfl,hB,heap_alloc_new w _,qn _,Nat.zero_le _,by simp,by simp⟩⟩
theorem Xc{w:World}{B e k n:Nat}{v:Value}{xs:List Value}(h:w.ownsRow B e k v n xs)(hv:∃g,v.ownBlock=some g):∃g c,v=.slice (some ⟨g,0,none⟩) n c∧B≤g∧FreeB w g∧∀j u,xs[j]?=some u→w.cell? ⟨g,j,none⟩=some u:=by
 rcases h.2 with ⟨rfl,rfl⟩|⟨g,cap,cur,rfl,hg,hh,_⟩
 ·obtain ⟨g,hg⟩:=hv;cases hg
 ·refine ⟨g,cap,rfl,hg,⟨cur,_,hh⟩,λj u hj=>?_⟩
  have:=h.cells (g:=g) rfl j u hj;rw [AN,Nat.zero_add] at this;exact this
theorem WS{s:Ls}{V:World}{P:Nat}(hs:PhsOk s V):∀n,n≤1000→FlC s V P n
 | 0,h=>WA s V P 0 hs h (λm hm=>by omega)
 | n+1,h=>WA s V P (n+1) hs h (λm hm=>by
  obtain rfl:m=n:=by omega
  exact WS hs m (by omega))
def WkRows(s:Ls)(ra a0 a1 a2 a3:Option Addr)(rc c0 c1 c2 c3:Nat)(W:World):Prop :=
 IsRow D8 4 W (.slice ra s.roles.length rc) s.roles∧IsRow C5 3 W (.slice a0 s.tempos.length c0) s.tempos∧IsRow CY 4 W (.slice a1 s.pauses.length c1) s.pauses∧IsRow CW 4 W (.slice a2 s.spans.length c2) s.spans∧IsRow Ay 14 W (.slice a3 (DP s).length c3) (DP s)
theorem WkRows.below{s:Ls}{ra a0 a1 a2 a3:Option Addr}{rc c0 c1 c2 c3:Nat}{W W':World}{n:Nat}(h:WkRows s ra a0 a1 a2 a3 rc c0 c1 c2 c3 W)(hb:Below n W W')(hn:W.heap.size≤n):WkRows s ra a0 a1 a2 a3 rc c0 c1 c2 c3 W' :=
 ⟨h.1.below hb hn,h.2.1.below hb hn,h.2.2.1.below hb hn,h.2.2.2.1.below hb hn,h.2.2.2.2.below hb hn⟩
theorem Xt(s:Ls)(ns:List Int)(w:World)(hA:s.At w)(hN:NsAt w s.refs ns)(he:Env w):Calls Tryz.prog 11 #[s.val] w λe w'=>Below w.heap.size w w' ∧
  ((∃k:Int,e=.returned (.tuple #[.agg wkZ,int i64 k])∧k≠0∧(Bc s ns=k∨(Bc s ns=0∧k=190∧s.roles=[])∨(Bc s ns=0∧k=2∧4096<(Fk s).length))) ∨
  (Bc s ns=0∧s.roles≠[]∧(Fk s).length≤4096∧∃(ra a0 a1 a2 a3:Option Addr) (rc c0 c1 c2 c3:Nat),e=.returned (.tuple #[.agg (wkC s ra a0 a1 a2 a3 rc c0 c1 c2 c3 (DP s).length),int i64 0])∧WkRows s ra a0 a1 a2 a3 rc c0 c1 c2 c3 w')):=by
 by_cases hs:Bc s ns=0
 ·by_cases hr:s.roles=[]
  ·refine (KJ s ns w hA hN he hs hr).mono ?_
   rintro e w' ⟨rfl,hb⟩;exact ⟨hb,Or.inl ⟨190,rfl,by decide,Or.inr (Or.inl ⟨hs,rfl,hr⟩)⟩⟩
  ·refine (M7 s ns w hA hN he hs hr).mono ?_
   rintro e w' ⟨hb,h⟩;refine ⟨hb,?_⟩;rcases h with ⟨h,rfl⟩|⟨h,ra,a0,a1,a2,a3,rc,c0,c1,c2,c3,rfl,h1,h2,h3,h4,h5⟩
   ·exact Or.inl ⟨2,rfl,by decide,Or.inr (Or.inr ⟨hs,rfl,h⟩)⟩
   ·exact Or.inr ⟨hs,hr,h,ra,a0,a1,a2,a3,rc,c0,c1,c2,c3,rfl,h1,h2,h3,h4,h5.1⟩
 ·refine (M9 s ns _ w hA hN he rfl hs).mono ?_
  rintro e w' ⟨rfl,hb⟩;exact ⟨hb,Or.inl ⟨_,rfl,hs,Or.inl rfl⟩⟩
theorem Wh:∀(l:List Sgn) (k:Int) (i:Nat) (x:Sgn),(Qd k l)[i]?=some x→∃y,l[i]?=some y∧x={ y with id:=k+i }
 | [],_,_,_,h=>by simp [Qd] at h
 | y::r,k,0,x,h=>by
  simp only [Qd,List.getElem?_cons_zero,Option.some.injEq] at h;exact ⟨y,rfl,by rw [← h];simp⟩
 | y::r,k,i+1,x,h=>by
  simp only [Qd,List.getElem?_cons_succ] at h;obtain ⟨z,h1,h2⟩:=Wh r (k+1) i x h;exact ⟨z,h1,by rw [h2];simp;omega⟩
theorem Xn{s:Ls}{i:Nat}{x:Sgn}(h:(DP s)[i]?=some x):x.id=i:=by
 obtain ⟨y,_,rfl⟩:=Wh _ _ _ _ h;simp
theorem Xe{s:Ls}{i:Nat}{x y:Sgn}(h:(DP s)[i]?=some x)(h2:(DP s)[i+1]?=some y):x.bar≤y.bar:=by
 obtain ⟨x',hx,rfl⟩:=Wh _ _ _ _ h;obtain ⟨y',hy,rfl⟩:=Wh _ _ _ _ h2;obtain ⟨l,e⟩:∃l,IT s.bars.toNat (Fk s)=l:=⟨_,rfl⟩;have hs:=JF s.bars.toNat (Fk s);rw [e] at hs hx hy;obtain ⟨q1,q2⟩:=ql.1 hx;obtain ⟨q3,q4⟩:=ql.1 hy;have:=List.pairwise_iff_getElem.1 hs i (i+1) q1 q3 (by omega);rw [q2,q4] at this;unfold C3 at this;simp only [decide_eq_false_iff_not] at this
 show x'.bar≤y'.bar
 omega
theorem Xx{s:Ls}{ns:List Int}{w:World}(hA:s.At w)(hN:NsAt w s.refs ns)(hs:Bc s ns=0):PhsOk s w:=by
 obtain ⟨hc,hL⟩:=Le hs;have hG:=hL;unfold Iy at hL;simp only [Bool.and_eq_true,decide_eq_true_eq] at hL;obtain ⟨_,_,_,kc,kx,kr,kd⟩:=hL;obtain ⟨hl,_,_,hk,hi⟩:=E9 hc;rw [← s.refs_key] at hi;have hg:∀x∈s.refs,Ga s.strip w x:=MX hN hi;have kx':∀p∈s.phrases,p.its.strip.exB=true:=List.all_eq_true.1 kx;have hB:=OR (Mh kx kr (Kl hc)) kr
 have hC:∀p∈s.phrases,p.its.few:=by
  unfold Sc.lims at hl;simp only [Bool.and_eq_true] at hl;obtain ⟨l,hE⟩:=Option.isSome_iff_exists.1 hl.2;exact Wp s.phrases _ l hE
 refine ⟨hA,λj p hp=>?_⟩;have hm:=List.mem_of_getElem? hp;obtain ⟨i1,i2,i3⟩:=Di hA.phrases hp
 have hF:p.its.strip.kinds=true:=by
  unfold Sc.kinds at hk;exact List.all_eq_true.1 hk p.strip (List.mem_map.2 ⟨p,hm,rfl⟩)
 have hD:∀(ps:List Ph),p∈ps→∀x∈p.refsL,x∈Ap ps:=by
  intro ps
  induction ps with
  | nil=>intro h;cases h
  | cons q r ih =>
   intro h x hx;rcases List.mem_cons.1 h with rfl|h
   ·exact List.mem_append_left _ hx
   ·exact List.mem_append_right _ (ih h x hx)
 exact ⟨i1,i2,⟨i3,λx hx=>hg x (List.mem_append_left _ (hD _ hm x hx)),kx' p hm,hF,hC p hm⟩,hB.fix j p hp⟩
structure PhW(s:Ls)(w0 A:World)(P G X2:Nat)(c2:Array Value)(pqs:List PhF)(left:Int)(W:World):Prop where
 base:Below A.heap.size A W
 box:W.heap[X2]?=some (.cells c2 30 (0,0))
 names:∀(k:Nat) (p:Ph),s.phrases[k]?=some p→W.cell? ⟨G,k*2,none⟩=some (sv p.name)
 old:∀k:Nat,k<s.phrases.length→∃v,W.cell? ⟨G,k*2+1,none⟩=some v
 free:FreeB W G
 cnt:W.heap[P]?=some (.cells #[int i64 left] 3 (0,0))
 ge:-66066-(pqs.length:Int)≤left
 sum:Wd pqs+left.toNat≤1000
 le:left≤1000
 row:∀(k:Nat) (q:PhF),pqs[k]?=some q→W.cell? ⟨G,k*2+1,none⟩=some (.slice q.ia q.L.length q.ic)∧(q.L=[]∨∃g,q.ia=some ⟨g,0,none⟩∧P<g)∧(∀j u,(q.L.flatMap feC)[j]?=some u→W.cell? ⟨blk q.ia,j,none⟩=some u)∧(∀x∈q.L,FEv s w0 x∧(x.mir=true→P<x.G∧W.rangeAt x.G 0 (feI x)))∧(0≤left→q.L.map XG.bar=JB s.ltsL (AI s.strip) k)
theorem Wq:∀(pqs:List PhF) (q:PhF),Wd (pqs++[q])=Wd pqs+q.L.length
 | [],q=>by simp [Wd]
 | x::r,q=>by simp only [List.cons_append,Wd,Wq r q];omega
theorem PhW.keep{s:Ls}{w0 A:World}{P G X2:Nat}{c2:Array Value}{pqs:List PhF}{left:Int}{W W':World}(h:PhW s w0 A P G X2 c2 pqs left W)(hb:Below W.heap.size W W'):PhW s w0 A P G X2 c2 pqs left W' :=
 ⟨h.base.trans (hb.mono h.base.size),Ah hb h.box,λk p hp=>Ad hb (h.names k p hp),λk hk=>by obtain ⟨v,hv⟩:=h.old k hk;exact ⟨v,Ad hb hv⟩,h.free.below hb,Ah hb h.cnt,h.ge,h.sum,h.le,λk q hq=>by
  obtain ⟨r1,r2,r3,r4,r5⟩:=h.row k q hq
  exact ⟨Ad hb r1,r2,λj u hj=>Ad hb (r3 j u hj),λx hx=>⟨(r4 x hx).1,λhm=>⟨((r4 x hx).2 hm).1,VW ((r4 x hx).2 hm).2 (hb.block _ (VY ((r4 x hx).2 hm).2))⟩⟩,r5⟩⟩
theorem PhW.next{s:Ls}{w0 A:World}{P G X2:Nat}{c2:Array Value}{pqs:List PhF}{left left':Int}{W W2:World}{L:List XG}{ao:Option Addr}{c:Nat}(h:PhW s w0 A P G X2 c2 pqs left W)(hA:FlA s w0 W P (JB s.ltsL (AI s.strip) pqs.length) 1000 left L ao left' W2)(hG:A.heap.size≤G)(hP:A.heap.size≤P)(hQ:G<P)(hX:X2≠P)(hK:X2≠G)(hR:P<W.heap.size)(hn:pqs.length<s.phrases.length) :
  ∃W3,W2.setCell ⟨G,pqs.length*2+1,none⟩ (.slice ao L.length c)=W3∧PhW s w0 A P G X2 c2 (pqs++[⟨ao,c,L⟩]) left' W3∧(∃v,W2.cell? ⟨G,pqs.length*2+1,none⟩=some v)∧W2.frozen? ⟨G,pqs.length*2+1,none⟩=false:=by
 obtain ⟨v0,hL⟩:=h.old _ hn;have hH:=hA.base.cell hL (show G≠P by omega);have hI:FreeB W2 G:=h.free.but hA.base (by omega);have hJ:=hA.base.size;have hS:G<W.heap.size:=by omega
 have hB:ButOne G W2 (W2.setCell ⟨G,pqs.length*2+1,none⟩ (.slice ao L.length c)):=ButOne.setCell (p:=⟨G,pqs.length*2+1,none⟩) _;obtain ⟨W3,hE⟩:∃W3,W2.setCell ⟨G,pqs.length*2+1,none⟩ (.slice ao L.length c)=W3:=⟨_,rfl⟩;rw [hE] at hB
 have hC:∀(q:Nat) (v:Value),q≠pqs.length*2+1→W2.cell? ⟨G,q,none⟩=some v→W3.cell? ⟨G,q,none⟩=some v:=λq v hq hc=>by
  have hM:(⟨G,pqs.length*2+1,none⟩:Addr)≠⟨G,q,none⟩:=λe=>by injection e with _ e;exact hq e.symm
  rw [← hE];exact (World.cell?_setCell_other _ _ _ _ hM).trans hc
 have hD:W3.cell? ⟨G,pqs.length*2+1,none⟩=some (.slice ao L.length c):=by
  rw [← hE];exact World.cell?_setCell_same _ _ _ hH
 refine ⟨W3,hE,⟨h.base.trans ((hA.base.below hP h.base.size).trans (hB.below hG (Nat.le_trans h.base.size hJ))),hB.heap (hA.base.heap h.box hX) hK,λk p hp=>hC _ _ (by omega) (hA.base.cell (h.names k p hp) (show G≠P by omega)),λk hk=>?_,?_,hB.heap hA.cnt (by omega),?_,?_,?_,λk q hq=>?_⟩,⟨v0,hH⟩,hI.free _⟩
 ·by_cases hF:k=pqs.length
  ·subst hF;exact ⟨_,hD⟩
  ·obtain ⟨v,hv⟩:=h.old k hk
   exact ⟨v,hC _ _ (by omega) (hA.base.cell hv (show G≠P by omega))⟩
 ·rw [← hE];exact hI.set _ _
 ·simp only [List.length_append,List.length_cons,List.length_nil]
  have h1:=h.ge;rcases Int.lt_or_le left 0 with hl|hl
  ·have:=hA.neg hl;push_cast;omega
  ·have h3:-66066≤left':=hA.low hl
   omega
 ·rw [Wq]
  have h1:=h.sum;have h2:=hA.sum
  show Wd pqs+L.length+left'.toNat≤1000
  omega
 ·exact Int.le_trans hA.le h.le
 ·have hN:∀x∈L,FEv s w0 x∧(x.mir=true→P<x.G∧W3.rangeAt x.G 0 (feI x)):=λx hx=>⟨(hA.ok x hx).1,λhm=>by
   obtain ⟨h1,h2⟩:=(hA.ok x hx).2 hm
   exact ⟨by omega,VW h2 (hB.block _ (VY h2) (by omega))⟩⟩
  by_cases hF:k=pqs.length
  ·subst hF
   simp only [List.getElem?_concat_length,Option.some.injEq] at hq;subst hq;refine ⟨hD,?_,λj u hj=>?_,hN,hA.out⟩
   ·rcases hA.row with h1|⟨g,h1,h2,_⟩
    ·exact Or.inl h1
    ·exact Or.inr ⟨g,h1,by omega⟩
   ·rcases hA.row with h1|⟨g,h1,h2,_⟩
    ·simp only [h1] at hj;simp at hj
    ·refine hB.cell (hA.at_ j u hj) ?_
     simp only [h1,blk];omega
  ·have hO:k<pqs.length:=by
    have:=(ql.1 hq).1;simp only [List.length_append,List.length_cons,List.length_nil] at this;omega
   rw [List.getElem?_append_left hO] at hq;obtain ⟨r1,r2,r3,r4,r5⟩:=h.row k q hq;refine ⟨hC _ _ (by omega) (hA.base.cell r1 (show G≠P by omega)),r2,λj u hj=>?_,λx hx=>⟨(r4 x hx).1,λhm=>?_⟩,λh0=>r5 (Int.le_trans h0 hA.le)⟩
   ·rcases r2 with h1|⟨g,h1,h2⟩
    ·rw [h1] at hj;simp at hj
    ·have hb:blk q.ia=g:=by rw [h1];rfl
     have h3:=r3 j u hj;rw [hb] at h3 ⊢;exact hB.cell (hA.base.cell h3 (show g≠P by omega)) (show g≠G by omega)
   ·obtain ⟨h1,h2⟩:=(r4 x hx).2 hm
    refine ⟨h1,VW h2 ?_⟩;rw [hB.block _ (Nat.lt_of_lt_of_le (VY h2) hJ) (by omega),hA.base.block _ (VY h2) (by omega)]
theorem Wy{q:PhF}:∀{pqs:List PhF},q∈pqs→q.L.length≤Wd pqs
 | x::r,h=>by
  rcases List.mem_cons.1 h with rfl|h
  ·simp only [Wd];omega
  ·have:=Wy h
   simp only [Wd];omega
theorem PhW.flat{s:Ls}{w0 A:World}{P G X2:Nat}{c2:Array Value}{pqs:List PhF}{left:Int}{W:World}(h:PhW s w0 A P G X2 c2 pqs left W)(hl:pqs.length=s.phrases.length)(h0:0≤left)(hb:Below w0.heap.size w0 W):FlatQ s W pqs∧AtRow Wc 2 W G 0 (VV s.phrases pqs):=by
 refine ⟨⟨hl,by have:=h.sum;omega,λi q hq=>?_⟩,λi x hx j u hj=>?_⟩
 ·obtain ⟨r1,r2,r3,r4,r5⟩:=h.row i q hq
  have hm:=Wy (List.mem_of_getElem? hq);have hs:=h.sum;refine ⟨?_,Nat.le_trans (show q.L.length≤1000 by omega) (by decide),(Ek Wm).2 λj u hj=>?_,λx hx=>(r4 x hx).1.ok_at hb λhm=>((r4 x hx).2 hm).2,r5 h0⟩
  ·rcases r2 with r2|⟨g,r2,_⟩
   ·exact Or.inl r2
   ·right;rw [r2];rfl
  ·rcases r2 with r2|⟨g,r2,_⟩
   ·rw [r2] at hj;simp at hj
   ·have e:off q.ia=0:=by rw [r2];rfl
    rw [e,Nat.zero_add];exact r3 j u hj
 ·have hA:=(ql.1 hx).1
  rw [VU] at hA;obtain ⟨p,hp⟩:∃p,s.phrases[i]?=some p:=⟨_,qg hA⟩;obtain ⟨q,hq⟩:∃q,pqs[i]?=some q:=⟨_,qg (by omega)⟩;rw [We _ _ i p q hp hq] at hx;cases hx;obtain ⟨r1,_⟩:=h.row i q hq;rw [Nat.zero_add]
  match j,hj with
  | 0,hj=>cases hj;exact h.names i p hp
  | 1,hj =>
   simp only [Wc,Ph.val,List.getElem?_cons_succ,List.getElem?_cons_zero,Option.some.injEq] at hj;rw [← hj,WH];exact r1
  | j+2,hj=>simp [Wc] at hj
theorem Xw{s:Ls}{w:World}(hA:s.At w):AtRow Wc 2 w (blk s.fa) (off s.fa) s.phrases:=λi x hx j u hj=>by
 obtain ⟨h1,h2⟩:=Ct hA.phrases hx
 match j,hj with
 | 0,hj=>cases hj;exact h1
 | 1,hj=>cases hj;exact h2
 | j+2,hj=>simp [Wc] at hj
theorem Wk(p:Ph):(Wc p).length=2:=rfl
theorem X9(l:List Ph):∀u∈l.flatMap Wc,u.oneCell'=true:=by
 intro u hu;obtain ⟨x,_,hx⟩:=List.mem_flatMap.1 hu;unfold Wc sv Ph.val at hx;simp only [List.mem_cons,List.not_mem_nil,or_false] at hx;rcases hx with rfl|rfl<;>rfl
theorem Xv:∃i,Tryz.prog.info? 58=some i∧i.zero=some (.agg #[.string ⟨#[]⟩,.slice none 0 0])∧i.size=2∧i.bytes=40:=by
 have h:=TG
 cases hi:Tryz.prog.info? 58 with
 | none=>rw [hi] at h;cases h
 | some i =>
  rw [hi] at h;simp only [Option.map_some,Option.some.injEq,Prod.mk.injEq] at h;exact ⟨i,rfl,h.1,h.2.1,h.2.2⟩
theorem PhW.start{s:Ls}{w0 A W:World}{P G X2:Nat}{c2:Array Value}(hb:Below A.heap.size A W)(hx:W.heap[X2]?=some (.cells c2 30 (0,0)))(hr:∀j u,(s.phrases.flatMap Wc)[j]?=some u→W.cell? ⟨G,j,none⟩=some u)(hf:FreeB W G)(hP:W.heap[P]?=some (.cells #[int i64 1000] 3 (0,0))):PhW s w0 A P G X2 c2 [] 1000 W:=by
 have hA:AtRow Wc 2 W G 0 s.phrases:=(Ek Wk).2 λj u hj=>by rw [Nat.zero_add];exact hr j u hj
 refine ⟨hb,hx,λk p hp=>?_,λk hk=>?_,hf,hP,by simp,by simp [Wd],by omega,λk q hq=>by simp at hq⟩
 ·have:=hA k p hp 0 _ rfl
  rwa [Nat.zero_add] at this
 ·have:=hA k _ (qg hk) 1 _ rfl
  rw [Nat.zero_add] at this;exact ⟨_,this⟩
theorem VX{α:Type}(enc:α→List Value)(k:Nat)(W:World):IsRow enc k W (.slice none ([]:List α).length 0) []:=⟨none,0,rfl,Nat.zero_le _,Or.inl rfl⟩
theorem ecx(s:Ls)(ra a0 a1 a2 a3:Option Addr)(rc c0 c1 c2 c3 nS:Nat)(W:World){ns:List Int}(hn:(DP s).length=nS)(hE:EnvK W)(hr:WkRows s ra a0 a1 a2 a3 rc c0 c1 c2 c3 W)(hs:Bc s ns=0)(h1:s.roles≠[])(h2:(Fk s).length≤4096) :
  Calls Tryz.prog 17 #[.agg #[int i64 s.wd,int i64 s.dp,int i64 (mkA s.t0 s.t1),int i64 (mkB s.t0 s.t1),int i64 (mkC s.t0 s.t1),.slice ra s.roles.length rc,int i64 s.bars,.slice a0 s.tempos.length c0,.slice a1 s.pauses.length c1,.slice a2 s.spans.length c2,.slice a3 nS c3]] W λe w'=>e=.returned (int i64 0)∧Below W.heap.size W w':=by
 subst hn;have h:=DO s.wd s.dp (mkA s.t0 s.t1) (mkB s.t0 s.t1) (mkC s.t0 s.t1) s.bars ra a0 a1 a2 a3 rc c0 c1 c2 c3 s.roles s.tempos s.pauses s.spans (DP s) W hE hr.1 hr.2.1 hr.2.2.1 hr.2.2.2.1 hr.2.2.2.2;have e:=Xg hs h1 h2;unfold Xf at e;rw [e] at h;exact h
theorem WE(s:Ls)(ns:List Int)(w:World)(hA:s.At w)(hN:NsAt w s.refs ns)(hE:∀V,Below w.heap.size w V→Env V∧EnvK V) :
  Calls Tryz.prog 5 #[s.val] w λe w'=>e=.returned (.bool true)∧Below w.heap.size w w':=by
 have HE:=qh hE;have HA:=qh hA;have HN:=qh hN;have hv:s.val=.agg s.cells:=rfl;rw [hv];obtain ⟨nD,HK⟩:∃n,s.phrases.length=n:=⟨_,rfl⟩;have HD:=qh HK;have HL:nD≤maxLen:=by rw [← HK];exact hA.plen
 unfold maxLen at HL;obtain ⟨V1,e1,g1,b1,z1⟩:=Ag w s.cells 30;obtain ⟨X,hX⟩:∃X,w.heap.size=X:=⟨_,rfl⟩;rw [hX] at g1;have HX:=qh g1;have HB:=qh b1;have h9:=qh hX;clear g1 b1 z1 hE hA hN hv HK;have st0:True:=trivial;go_enter Tryz.func5,Tryz.ntmps5
 go_wp2_with (first
  | (have q:=st0;clear q;go_at_call 9;refine (Uy _ (λV hV=>HE.out V (Af HB.out hV))).mono ?_;rintro e V2 ⟨rfl,hb⟩;replace HB:=qh (Af HB.out hb);replace HX:=qh (Ah hb HX.out);clear hb;clear st0;have st1:True:=trivial)
  | (have q:=st1;clear q;refine wpList_load_row rfl 30 _ rfl X rfl 30 s.cells (0,0) _ HX.out Tryz.underlying30 rfl (by kernel_rfl) ?_;simp only [Act.put,qD,qE,qF];clear st1;have st2:True:=trivial))
 have hB:Value.agg s.cells=s.val:=rfl;rw [hB];go_at_call 10;refine (Ux s V2 (HA.out.below HB.out)).mono ?_;rintro e V3 ⟨r,rfl,hb⟩
 replace HB:=qh (Af HB.out hb)
 replace HX:=qh (Ah hb HX.out)
 clear hb hB e1
 cases r with
 | false =>
  go_wp2_with fail;go_ret;exact ⟨rfl,by have hq:=HB.out;first|exact hq|(rw [h9.out] at hq;exact hq)⟩
 | true =>
 have st3:True:=trivial
 go_wp2_with (first
  | (have q:=st3;clear q;refine wpList_load_row rfl 30 _ rfl X rfl 30 s.cells (0,0) _ HX.out Tryz.underlying30 rfl (by kernel_rfl) ?_;simp only [Act.put,qD,qE,qF];clear st3;have st4:True:=trivial))
 have hB:Value.agg s.cells=s.val:=rfl;rw [hB];clear hB;go_at_call 11;refine (Xt s ns V3 (HA.out.below HB.out) (HN.out.below HB.out) (HE.out V3 HB.out).1).mono ?_;rintro e V9 ⟨hb,he⟩
 replace HB:=qh (Af HB.out hb);replace HX:=qh (Ah hb HX.out);clear hb
 rcases he with ⟨k,rfl,hk,hf⟩|⟨Hk,Hl,HF,ra,a0,a1,a2,a3,rc,c0,c1,c2,c3,rfl,hQ⟩
 ·have ul:(k==0)=false:=by simpa using hk
  unfold wkZ;have HW:=qh hf;clear hf;obtain ⟨A9,xA9,gA9,bA9,zA9⟩:=Ag V9 #[int i64 0,int i64 0,int i64 0,int i64 0,int i64 0,.slice none 0 0,int i64 0,.slice none 0 0,.slice none 0 0,.slice none 0 0,.slice none 0 0] 39;obtain ⟨XB,Hm⟩:∃X,V9.heap.size=X:=⟨_,rfl⟩;rw [Hm] at gA9;have G9:=qh gA9;have B9:=qh bA9;have uF:=qh Hm;clear gA9 bA9 zA9;have st60:True:=trivial
  go_wp2_with (first
   | (have q:=st60;clear q;refine wpList_store_row rfl 39 _ _ rfl XB #[int i64 0,int i64 0,int i64 0,int i64 0,int i64 0,.slice none 0 0,int i64 0,.slice none 0 0,.slice none 0 0,.slice none 0 0,.slice none 0 0] rfl rfl 39 _ G9.out (by kernel_rfl) rfl (by simp [Value.oneCell']) ?_;obtain ⟨W9,hW,gW,bW⟩:=AP (cs:=#[int i64 0,int i64 0,int i64 0,int i64 0,int i64 0,.slice none 0 0,int i64 0,.slice none 0 0,.slice none 0 0,.slice none 0 0,.slice none 0 0]) G9.out B9.out (Nat.le_of_eq uF.out);rw [hW];have uG:=qh (Af HB.out bW);have uH:=qh gW;have uI:=qh (Ah bW HX.out);clear G9 B9 hW gW bW;clear st60;have st61:True:=trivial)
   | (have q:=st61;clear q;refine wpList_load_row rfl 39 _ rfl XB rfl 39 #[int i64 0,int i64 0,int i64 0,int i64 0,int i64 0,.slice none 0 0,int i64 0,.slice none 0 0,.slice none 0 0,.slice none 0 0,.slice none 0 0] (0,0) _ uH.out Tryz.underlying39 rfl (by kernel_rfl) ?_;simp only [Act.put,qD,qE,qF];clear st61;have st62:True:=trivial)
   | (have q:=st62;clear q;go_at_call 13;refine (WT 0 0 0 0 0 0 [] [] [] [] [] none none none none none none none none none none 0 0 0 0 0 0 0 0 0 0 W9 (VX _ _ _) (VX _ _ _) (VX _ _ _) (VX _ _ _) (VX _ _ _) (VX _ _ _) (VX _ _ _) (VX _ _ _) (VX _ _ _) (VX _ _ _)).mono ?_;rintro e V10 ⟨rfl,hb⟩;have hF:=qh (Af uG.out hb);have hG:=qh (Ah hb uI.out);clear hb;clear st62;have st63:True:=trivial)
   | (have q:=st63;clear q;refine Dn (by kernel_rfl) 30 _ rfl X rfl 30 s.cells (0,0) _ hG.out Tryz.underlying30 rfl (by kernel_rfl) ?_;simp only [Act.put,qD,qE,qF];clear st63;have st64:True:=trivial)
   | (have q:=st64;clear q;go_at_call 20;refine (FV s ns V10 (HA.out.below hF.out) (HN.out.below hF.out) (HE.out V10 hF.out).1).mono ?_;unfold IF;rintro e V11 ⟨rfl,hb⟩;have HM:=qh (Af hF.out hb);have y6:=Aa (Ah hb hG.out) 6 (show s.cells[6]?=some (.slice s.ra s.roles.length s.rc) from rfl);clear hb;rcases HW.out with h|⟨h,rfl,hr⟩|⟨h,rfl,_⟩<;>rw [h]<;>(try rw [hr] at y6)<;>clear st64<;>have st65:True:=trivial))
  all_goals go_ret
  all_goals (exact ⟨rfl,by have hq:=HM.out;first|exact hq|(rw [h9.out] at hq;exact hq)⟩)
 obtain ⟨nS,HG⟩:∃n,(DP s).length=n:=⟨_,rfl⟩;have hh:nS≤maxLen:=by obtain ⟨g,o,_,h,_⟩:=hQ.2.2.2.2.parts;rwa [HG] at h
 unfold maxLen at hh;have hm:=qh HG;have ho:=qh Hk;have Hn:=qh Hl;have Ho:=qh HF;unfold wkC;rw [HG];obtain ⟨A10,xA10,gA10,bA10,zA10⟩:=Ag V9 #[int i64 s.wd,int i64 s.dp,int i64 (mkA s.t0 s.t1),int i64 (mkB s.t0 s.t1),int i64 (mkC s.t0 s.t1),.slice ra s.roles.length rc,int i64 s.bars,.slice a0 s.tempos.length c0,.slice a1 s.pauses.length c1,.slice a2 s.spans.length c2,.slice a3 nS c3] 39;obtain ⟨X8,uJ⟩:∃X,V9.heap.size=X:=⟨_,rfl⟩;rw [uJ] at gA10;have HP:=qh gA10
 replace HB:=qh (Af HB.out bA10);replace HX:=qh (Ah bA10 HX.out)
 have hs:=qh (hQ.below bA10 (qn _));clear hQ gA10 bA10 zA10 HG Hk Hl HF;have hB:Value.agg s.cells=s.val:=rfl;have st70:True:=trivial
 go_wp2_with (first
  | (have q:=st70;clear q;refine wpList_load_row rfl 30 _ rfl X rfl 30 s.cells (0,0) _ HX.out Tryz.underlying30 rfl (by kernel_rfl) ?_;simp only [Act.put,qD,qE,qF];clear st70;have st71:True:=trivial)
  | (have q:=st71;clear q;go_at_call 20;refine (FV s ns A10 (HA.out.below HB.out) (HN.out.below HB.out) (HE.out A10 HB.out).1).mono ?_;unfold IF;rw [ho.out];rintro e W1 ⟨rfl,hb⟩;have Hp:=qh (Af HB.out hb);have uK:=qh (Ah hb HX.out);have hR:=qh (Ah hb HP.out);have hJ:=qh (hs.out.below hb (qn _));have HR:=qh hb;clear hb;clear st71;have st72:True:=trivial)
  | (have q:=st72;clear q;refine Dn (by kernel_rfl) 39 _ rfl X8 rfl 39 #[int i64 s.wd,int i64 s.dp,int i64 (mkA s.t0 s.t1),int i64 (mkB s.t0 s.t1),int i64 (mkC s.t0 s.t1),.slice ra s.roles.length rc,int i64 s.bars,.slice a0 s.tempos.length c0,.slice a1 s.pauses.length c1,.slice a2 s.spans.length c2,.slice a3 nS c3] (0,0) _ hR.out Tryz.underlying39 rfl (by kernel_rfl) ?_;simp only [Act.put,qD,qE,qF];clear st72;have st73:True:=trivial)
  | (have q:=st73;clear q;go_at_call 17;refine (ecx s ra a0 a1 a2 a3 rc c0 c1 c2 c3 nS W1 hm.out (HE.out W1 Hp.out).2 hJ.out ho.out Hn.out Ho.out).mono ?_;rintro e W2 ⟨rfl,hb⟩;have uL:=qh (Af Hp.out hb);have uM:=qh (Ah hb uK.out);have ht:=qh (Ah hb hR.out);have hL:=qh (hJ.out.below hb (qn _));have HT:=qh (Af HR.out hb);have y10:W2.cell? ⟨X8,10,none⟩=some (.slice a3 nS c3):=Aa (Ah hb hR.out) 10 rfl;clear hb;clear st73;have st74:True:=trivial))
 clear y10;go_loopw [58] (λiv wr=>∃i:Nat,iv=int i64 i∧i≤nS∧Hid (Below W2.heap.size W2 wr)) (λiv _=>nS+1-(intOf iv).toNat)
 case atStart=>exact ⟨0,rfl,Nat.zero_le _,qh (Below.refl _ _)⟩
 case round =>
  obtain ⟨i,rfl,um,hW⟩:=hrel;by_cases hi:i<nS
  ·have uN:((i:Nat):Int)<(nS:Int):=by omega
   obtain ⟨x,hx⟩:∃x,(DP s)[i]?=some x:=⟨_,qg (by rw [hm.out];exact hi)⟩;have hid:=Xn hx;obtain ⟨g,o,ha,hA,_⟩:=(hL.out.2.2.2.2.below hW.out (qn _)).block hx;have hg:wr.rangeAt g (o+i*14) (Ay x):=λu v hv=>hA i _ hx u v hv
   have Hq:=qh hg
   have hM:∀j,i=j+1→∃y:Sgn,wr.cell? ⟨g,o+j*14+2,none⟩=some (int i64 y.bar)∧y.bar≤x.bar:=λj hj=>by
    obtain ⟨y,hy⟩:∃y,(DP s)[j]?=some y:=⟨_,qg (by rw [hm.out];omega)⟩;exact ⟨y,hA j _ hy 2 _ rfl,Xe hy (hj▸hx)⟩
   have Hr:=qh hM;have Hs:(W2.heap.size≤wr.heap.size):=hW.out.size;subst ha;have y10:wr.cell? ⟨X8,10,none⟩=some (.slice (some ⟨g,o,none⟩) nS c3):=Aa (Ah hW.out ht.out) 10 rfl
   cases x with
   | mk s0 s1 s2 s3 s4 s5 s6 s7 s8 s9 s10 s11 s12 s13 =>
   have hid:s0=(i:Int):=hid;subst hid;have HU:=qh (show wr.rangeAt g (o+i*14) [int i64 (i:Nat),int i64 s1,int i64 s2,int i64 s3,int i64 s4,int i64 s5,int i64 s6,int i64 s7,int i64 s8,int i64 s9,int i64 s10,int i64 s11,int i64 s12,int i64 s13] from Hq.out);obtain ⟨A16,xA16,gA16,bA16,zA16⟩:=Ag wr #[int i64 (i:Nat),int i64 s1,int i64 s2,int i64 s3,int i64 s4,int i64 s5,int i64 s6,int i64 s7,int i64 s8,int i64 s9,int i64 s10,int i64 s11,int i64 s12,int i64 s13] 54;obtain ⟨XS,uO⟩:∃X,wr.heap.size=X:=⟨_,rfl⟩;rw [uO] at gA16;have k0:=Aa gA16 0 rfl;have k2:=Aa gA16 2 rfl;have z10:=Ad bA16 y10;have hu:=qh (hW.out.trans (bA16.mono Hs))
   have HV:=qh (show ∀j,i=j+1→∃yb:Int,A16.cell? ⟨g,o+j*14+2,none⟩=some (int i64 yb)∧yb≤s2 from λj hj=>by
    obtain ⟨y,h1,h2⟩:=Hr.out j hj
    exact ⟨y.bar,Ad bA16 h1,h2⟩)
   clear hA hx hg hM Hq Hr gA16 bA16 zA16 Hs
   go_wp2_with (first
    | (refine Fc (by kernel_rfl) 54 _ rfl g (o+i*14) rfl _ _ HU.out Tryz.underlying54 rfl (by kernel_rfl) ?_;simp only [Act.put,qD,qE,qF]))
   rcases Nat.eq_zero_or_pos i with uP|uQ
   ·subst uP
    have un:¬(0:Int)<0:=by omega
    go_quiet (fail);go_wp2_with fail;go_roundw
    case rel=>exact ⟨0+1,by go_num,by omega,qh (Aj hu.out _)⟩
    case measure=>first|omega|(simp [intOf];done)|(simp [intOf];omega)
   ·obtain ⟨j,rfl⟩:∃j,i=j+1:=⟨i-1,by omega⟩
    obtain ⟨yb,hy,uo⟩:=HV.out j rfl;have up:((j+1:Nat):Int)-1=(j:Int):=by omega
    have uq:j<nS:=by omega
    have ur:(j:Int)<(nS:Int):=by omega
    have us:¬s2<yb:=by omega
    have ut:(0:Int)<((j+1:Nat):Int):=by omega
    go_quiet (fail);go_wp2_with fail;go_roundw
    case rel=>exact ⟨j+1+1,by go_num,by omega,qh (Aj hu.out _)⟩
    case measure=>first|omega|(simp [intOf];done)|(simp [intOf];omega)
  ·obtain rfl:i=nS:=by omega
   obtain ⟨W3,rfl⟩:∃V,V=wr:=⟨_,rfl⟩;have uN:¬((i:Nat):Int)<(i:Int):=by omega
   have Ht:=qh (Af uL.out hW.out);have Hu:=qh (Ah hW.out uM.out);have uR:=qh (Ah hW.out ht.out);have Hv:=qh (hL.out.below hW.out (qn _));have hw:=qh (Af HT.out hW.out);obtain ⟨i0,q0,q1,q2,q3⟩:=Xv;have hI:=qh (And.intro q0 (And.intro q1 (And.intro q2 q3)));clear q0 q1 q2 q3
   have uS:nD≤64:=by
    obtain ⟨hc,_⟩:=Le ho.out;have:=(DT (E9 hc).1).1;rw [HD.out] at this;exact this
   have hz:(s.phrases.flatMap Wc).length=nD*2∧(s.fa=none→nD=0)∧∀ad,s.fa=some ad→∀j u,(s.phrases.flatMap Wc)[j]?=some u→w.cell? (ad.add j)=some u:=by
    refine ⟨by rw [Fm Wk,HD.out],λhn=>?_,λad ha j u hj=>?_⟩
    ·rcases HA.out.pform with h|h
     ·rw [← HD.out,h];rfl
     ·rw [hn] at h;cases h
    ·rcases HA.out.pform with h|h
     ·rw [h] at hj;simp at hj
     ·have e:ad=⟨blk s.fa,off s.fa,none⟩:=Option.some.inj (ha.symm.trans h)
      rw [e,AN];exact (Ek Wk).1 (Xw HA.out) j u hj
   have HS:=qh hz;clear hz hW;have st80:True:=trivial
   go_wp2_with (first
    | (have q:=st80;clear q;refine wpList_load_row rfl 30 _ rfl X rfl 30 s.cells (0,0) _ Hu.out Tryz.underlying30 rfl (by kernel_rfl) ?_;simp only [Act.put,qD,qE,qF];obtain ⟨A11,xA11,gA11,bA11,zA11⟩:=Ag W3 s.cells 30;unfold Ls.cells;unfold Ls.cells at xA11;obtain ⟨X2,Hw⟩:∃X,W3.heap.size=X:=⟨_,rfl⟩;rw [Hw] at gA11;obtain ⟨E7,hd⟩:∃X,A11.heap.size=X:=⟨_,rfl⟩;obtain ⟨W12,xW12,bW12,sW12⟩:∃W,A11.alloc (.cells #[] 58)=W∧Below A11.heap.size A11 W∧W.heap.size=A11.heap.size+1:=⟨_,rfl,(Below.refl _ _).alloc (qn _) _,by simp⟩;rw [hd] at bW12 sW12;have h0:W12.ownsRow E7 58 2 (.slice (some ⟨E7,0,none⟩) 0 0) 0 []:=(by rw [← xW12,← hd];exact Xb A11 _ 58 2 (qn _));have h3:X2<E7:=(by rw [← hd];exact (qs.1 gA11).1);have HY:Below w.heap.size w A11:=Af Ht.out bA11;have Hx:Below w.heap.size w W12:=HY.trans (bW12.mono (by rw [← hd];exact HY.size));have Hy:∀{b:Nat} {ob:Obj},A11.heap[b]?=some ob→W12.heap[b]?=some ob:=(λ{b ob} h=>(bW12.block b (by rw [← hd];exact (qs.1 h).1)).trans h);have y11:W12.cell? ⟨X,10,none⟩=some (.slice s.fa nD s.fc):=(by rw [← HD.out];exact Aa (Hy (Ah bA11 Hu.out)) 10 rfl);have HO:=qh h0;have GX5:=qh gA11;have BW12:=qh bW12;have SW12:=qh sW12;have Hz:=qh Hx;have BA11:=qh bA11;have HH:=qh h3;clear gA11 bA11 zA11 bW12 sW12 h0 HY Hx Hy h3;clear st80;have st81:True:=trivial)
    | (at_builtin;(try rw [xW12]);refine VT rfl _ _ 27 rfl E7 58 i0 _ 2 40 Tryz.underlying27 hI.out.1 hI.out.2.1 hI.out.2.2.1 hI.out.2.2.2 rfl (by decide) _ 0 [] rfl HO.out s.fa nD s.fc (s.phrases.flatMap Wc) rfl HS.out.1 HS.out.2.1 (λad ha j u hj=>Ad Hz.out (HS.out.2.2 ad ha j u hj)) (X9 s.phrases) (by unfold maxLen;omega) (by omega) (by rw [SW12.out];omega) ?_;intro v5 W13 HZ H0 H1;rw [Nat.zero_add,List.nil_append] at HZ;obtain ⟨G,cG,rfl,q1,q2,q3⟩:=Xc HZ (by rcases H1 with h|h<;>exact ⟨_,h⟩);have Ha:Below E7 A11 W13:=BW12.out.grown H0 (by rw [SW12.out];omega) (λk hk=>by cases hk;exact qn _);have gX5:=(Ha.block X2 HH.out).trans GX5.out;obtain ⟨W14,eW14,gW14,oW14,bW14,cW14,fW14⟩:=CG (i:=10) (v:=.slice (some ⟨G,0,none⟩) nD cG) (cs':=(s.flatL (some ⟨G,0,none⟩) cG []).cells) gX5 rfl (by unfold Ls.cells;simp [Ls.flatL,HD.out,VU]);have Hb:W3.heap.size≤X2:=Nat.le_of_eq Hw;have uT:W3.heap.size≤E7:=(by have:=HH.out;omega);have hS:Below W3.heap.size W3 W14:=(Af BA11.out (by have:=Ha;rwa [← hd] at this)).trans (bW14 _ Hb);have hD:X2≠G:=(by have:=HH.out;omega);obtain ⟨W15,eW15,gW15,bW15,zW15⟩:=Ag W14 #[int i64 1000] 3;obtain ⟨P,hP⟩:∃P,W14.heap.size=P:=⟨_,rfl⟩;rw [hP] at gW15;have hT:FreeB W14 G:=(by obtain ⟨cur,t,hc⟩:=q2;exact ⟨cur,t,(oW14 G (λe=>hD e.symm)).trans hc⟩);have H2:G<P:=(by rw [← hP];exact hT.lt);have hY:Below W3.heap.size W3 W15:=hS.trans (bW15.mono hS.size);have Hc:=qh (PhW.start (s:=s) (w0:=w) (A:=A10) (Af hw.out hY) (Ah bW15 gW14) (λj u hj=>Ad bW15 ((World.cell?_of_block (oW14 G (λe=>hD e.symm))).trans (q3 j u hj))) (hT.below bW15) gW15);have y5:W15.cell? ⟨X2,10,none⟩=some (.slice (some ⟨G,0,none⟩) nD cG):=(by rw [← HD.out];exact Aa (Ah bW15 gW14) 10 (by unfold Ls.cells;simp [Ls.flatL,VU]));have uU:=qh (Af Ht.out hY);have hO:=qh (show A10.heap.size≤G∧A10.heap.size≤P∧G<P∧X2≠P∧X2≠G∧A10.heap.size≤X2 from (by have:=hw.out.size;have:=HH.out;exact ⟨by omega,by omega,H2,by omega,hD,by omega⟩));clear HZ H0 H1 q1 q2 q3 Ha gX5 gW14 oW14 bW14 hS hT H2 hY gW15 bW15 zW15 HO BW12 SW12 Hz GX5 BA11 y11))
   clear y5;obtain ⟨cc2,Hd⟩:∃c,(s.flatL (some ⟨G,0,none⟩) cG []).cells=c:=⟨_,rfl⟩;rw [Hd] at Hc;have H3:=qh Hd;have H4:=qh (Xx HA.out HN.out ho.out);have uV:=qh (WS (P:=P) H4.out 1000 (qn _));clear Hd;go_loopw [93] (λiv wr=>∃(pqs:List PhF) (l:Int),iv=int i64 (pqs.length:Nat)∧pqs.length≤nD∧Hid (PhW s w A10 P G X2 cc2 pqs l wr)) (λiv _=>nD+1-(intOf iv).toNat)
   case atStart=>exact ⟨[],1000,rfl,Nat.zero_le _,Hc⟩
   case round =>
    clear Hc;obtain ⟨pqs,l,rfl,uW,hW⟩:=hrel;obtain ⟨j,hj⟩:∃j,pqs.length=j:=⟨_,rfl⟩;rw [hj] at uW ⊢;have HJ:=qh hj;have uX:=hW.out.ge;have HF:=hW.out.le;rw [hj] at uX;clear hj;by_cases hq:j<nD
    ·have uY:((j:Nat):Int)<(nD:Int):=by omega
     obtain ⟨p,hp⟩:∃p,s.phrases[j]?=some p:=⟨_,qg (by rw [HD.out];exact hq)⟩;obtain ⟨p1,p2,p3,p4⟩:=H4.out.ph j p hp;have He:=HA.out.pform.resolve_left (λe=>by rw [e] at hp;cases hp);have hZ:=(Ct HA.out.phrases hp).2;unfold Ph.val at hZ;obtain ⟨FB,H5⟩:∃g,blk s.fa=g:=⟨_,rfl⟩;obtain ⟨FO,H6⟩:∃g,off s.fa=g:=⟨_,rfl⟩;rw [H5,H6] at hZ He;obtain ⟨U0,H7⟩:∃U,wr.drew=U:=⟨_,rfl⟩;have hH:=hW.out.keep (W':=wr.drew) (Below.refl _ _).drew;rw [H7] at hH;have HI:Below w.heap.size w U0:=HB.out.trans (hH.base.mono HB.out.size);have H8:w.heap.size≤P:=Nat.le_trans HB.out.size hO.out.2.1;have H9:P<U0.heap.size:=(qs.1 hH.cnt).1;have e4:AA false (p.its.bars (AI s.strip) (JB s.ltsL (AI s.strip)))=JB s.ltsL (AI s.strip) (pqs.length:Nat):=by rw [HJ.out,p4];unfold AA;simp
     have hc:=uV.out p.its p.ia p.ic false l U0 HI H8 hH.cnt HF (by omega) p1 p2 p3;rw [e4] at hc;have HC:=qh hc;have Hf:U0.heap[X]?=some (.cells s.cells 30 (0,0)):=(hH.base.block X (qs.1 HX.out).1).trans HX.out;have hC:=qh (show (λV:World=>V.heap[X]?=some (.cells s.cells 30 (0,0))∧V.heap[X2]?=some (.cells cc2 30 (0,0))∧V.cell? ⟨FB,FO+j*2+1,none⟩=some (.slice p.ia p.its.len p.ic)) U0 from ⟨Hf,hH.box,Ad HI hZ⟩);have hG:=qh (show s.cells[10]?=some (.slice (some ⟨FB,FO,none⟩) nD s.fc) by rw [← He,← HD.out];rfl);have Hg:=qh (show cc2[10]?=some (.slice (some ⟨G,0,none⟩) nD cG) by rw [← H3.out,← HD.out];unfold Ls.cells;simp [Ls.flatL,VU]);have uZ:=qh (show ∀(pqs':List PhF) (l':Int) (U:World),PhW s w A10 P G X2 cc2 pqs' l' U→(λV:World=>V.heap[X]?=some (.cells s.cells 30 (0,0))∧V.heap[X2]?=some (.cells cc2 30 (0,0))∧V.cell? ⟨FB,FO+j*2+1,none⟩=some (.slice p.ia p.its.len p.ic)) U from λ_ _ U hU=>⟨(hU.base.block X (qs.1 HX.out).1).trans HX.out,hU.box,Ad (HB.out.trans (hU.base.mono HB.out.size)) hZ⟩);have ua:=qh (show ∀U:World,ButOne P U0 U→(λV:World=>V.heap[X]?=some (.cells s.cells 30 (0,0))∧V.heap[X2]?=some (.cells cc2 30 (0,0))∧V.cell? ⟨FB,FO+j*2+1,none⟩=some (.slice p.ia p.its.len p.ic)) U from λU hU=>⟨hU.heap Hf (by have:=(qs.1 HX.out).1;have:=hO.out.2.1;omega),hU.heap hH.box hO.out.2.2.2.1,hU.cell (Ad HI hZ) (by have:=CJ hZ;simp only at this ⊢;omega)⟩);have ub:=qh hH;have uc:=qh H9;clear hp p1 p2 p3 p4 He hZ H5 H6 hH HI e4 hc Hf H9 H8 hW;go_wp2_with fail;refine wp_region_held (S:=λV:World=>V.heap[X]?=some (.cells s.cells 30 (0,0))∧V.heap[X2]?=some (.cells cc2 30 (0,0))∧V.cell? ⟨FB,FO+j*2+1,none⟩=some (.slice p.ia p.its.len p.ic)) (by kernel_rfl) ?_;change wpAnyH _ _ _ _ _ _ _ _ wr.drew;rw [H7];refine tkS (i:=0) (oi:=_) (v:=.pointer (some ⟨X2,10,none⟩)) rfl (by kernel_rfl) (λ_ _ _ h=>h) (λV hb=>by go_simp) hC.out ?_
     try simp only [Act.put,qz]
     refine tkS (i:=1) (oi:=_) (v:=.slice (some ⟨G,0,none⟩) nD cG) rfl (by kernel_rfl) (λ_ _ _ h=>h) (λV hb=>by have q0:=Aa hb.2.1 10 Hg.out;go_simp) hC.out ?_
     try simp only [Act.put,qz]
     refine tkS (i:=2) (oi:=_) (v:=int i64 (j:Nat)) rfl (by kernel_rfl) (λ_ _ _ h=>h) (λV hb=>by go_simp) hC.out ?_
     try simp only [Act.put,qz]
     refine tq 3 _ (.agg s.cells) rfl (by kernel_rfl) (λ_ _ _ h=>h) (Cw rfl 30 _ rfl X rfl 30 s.cells (0,0) _ (λV hb=>hb.1) Tryz.underlying30 rfl (by kernel_rfl)) hC.out ?_
     try simp only [Act.put,qz]
     refine tkS (i:=4) (oi:=_) (v:=.pointer (some ⟨X,10,none⟩)) rfl (by kernel_rfl) (λ_ _ _ h=>h) (λV hb=>by go_simp) hC.out ?_
     try simp only [Act.put,qz]
     refine tkS (i:=5) (oi:=_) (v:=.slice (some ⟨FB,FO,none⟩) nD s.fc) rfl (by kernel_rfl) (λ_ _ _ h=>h) (λV hb=>by have q0:=Aa hb.1 10 hG.out;go_simp) hC.out ?_
     try simp only [Act.put,qz]
     refine tkS (i:=6) (oi:=_) (v:=int i64 (j:Nat)) rfl (by kernel_rfl) (λ_ _ _ h=>h) (λV hb=>by go_simp) hC.out ?_
     try simp only [Act.put,qz]
     refine tkS (i:=7) (oi:=_) (v:=.pointer (some ⟨FB,FO+j*2,none⟩)) rfl (by kernel_rfl) (λ_ _ _ h=>h) (λV hb=>by go_simp) hC.out ?_
     try simp only [Act.put,qz]
     refine tkS (i:=8) (oi:=_) (v:=.pointer (some ⟨FB,FO+j*2+1,none⟩)) rfl (by kernel_rfl) (λ_ _ _ h=>h) (λV hb=>by go_simp) hC.out ?_
     try simp only [Act.put,qz]
     refine tkS (i:=9) (oi:=_) (v:=.slice p.ia p.its.len p.ic) rfl (by kernel_rfl) (λ_ _ _ h=>h) (λV hb=>by have q0:=hb.2.2;go_simp) hC.out ?_
     try simp only [Act.put,qz]
     refine tr 10 _ (by kernel_rfl) rfl λK1 hK=>?_
     go_simp;refine HC.out.mono ?_;rintro e U1 ⟨L,ao,c,l2,rfl,hA⟩;obtain ⟨U2,ud,uA,⟨v0,ue⟩,uf⟩:=ub.out.next (c:=c) hA hO.out.1 hO.out.2.1 hO.out.2.2.1 hO.out.2.2.2.1 hO.out.2.2.2.2.1 uc.out (by rw [HJ.out,HD.out];exact hq)
     rw [HJ.out] at ud ue uf;have h4:=ua.out U1 hA.base;have uB:=qh uA;clear hC hA uA;have hC:=qh h4;clear h4;refine hK.out _ _ hC.out (λ_=>?_);clear hK K1
     try simp only [Act.put,qz]
     refine tkS (i:=11) (oi:=_) (v:=.pointer (some ⟨G,j*2,none⟩)) rfl (by kernel_rfl) (λ_ _ _ h=>h) (λV hb=>by go_simp) hC.out ?_
     try simp only [Act.put,qz]
     refine tkS (i:=12) (oi:=_) (v:=.pointer (some ⟨G,j*2+1,none⟩)) rfl (by kernel_rfl) (λ_ _ _ h=>h) (λV hb=>by go_simp) hC.out ?_
     try simp only [Act.put,qz]
     refine tr 13 _ (by kernel_rfl) rfl λK1 hK=>?_
     go_simp;have h4:=uZ.out _ _ U2 uB.out;clear hC;refine hK.out _ _ h4 (λ_=>?_);clear hK K1 h4
     try simp only [Act.put,qz]
     refine wpAnyH_done (by kernel_rfl) ?_ _;go_wp2_with fail;go_roundw
     case rel=>exact ⟨pqs++[⟨ao,c,L⟩],l2,by rw [List.length_append,HJ.out];go_num,by rw [List.length_append,HJ.out];exact hq,uB⟩
     case measure=>first|omega|(simp [intOf];done)|(simp [intOf];omega)
    ·obtain rfl:j=nD:=by omega
     have uY:¬((j:Nat):Int)<(j:Int):=by omega
     obtain ⟨W4,rfl⟩:∃V,V=wr:=⟨_,rfl⟩;have h5:Below w.heap.size w W4:=HB.out.trans (hW.out.base.mono HB.out.size);have Hh:=qh h5;have uu:=Aa hW.out.cnt 0 rfl;by_cases hl:l<0
     ·clear h5
      go_wp2_with fail;go_ret;exact ⟨rfl,by have hq:=Hh.out;first|exact hq|(rw [h9.out] at hq;exact hq)⟩
     ·obtain ⟨uC,uD⟩:=hW.out.flat (by rw [HJ.out,HD.out]) (by omega) h5
      obtain ⟨ms,q1,q2,q3,q4⟩:=Xp (a:=some ⟨G,0,none⟩) (c:=cG) HA.out HN.out ho.out h5 uC (Or.inr rfl) uD;have HQ:=qh (And.intro (And.intro q1 q2) (And.intro q3 q4));have ecc:cc2=(s.flatL (some ⟨G,0,none⟩) cG pqs).cells:=by rw [← H3.out];unfold Ls.cells;simp [Ls.flatL,VU]
      have uE:=qh ecc;have ug:=qh (show W4.heap[X8]?=_ from (hW.out.base.block X8 (qs.1 HP.out).1).trans HP.out);have h6:=qh (hs.out.below hW.out.base (qn _));clear uC uD q1 q2 q3 q4 ecc h5;have st90:True:=trivial
      go_wp2_with (first
       | (have q:=st90;clear q;refine wpList_load_row rfl 30 _ rfl X2 rfl 30 cc2 (0,0) _ hW.out.box Tryz.underlying30 rfl (by rw [uE.out];kernel_rfl) ?_;simp only [Act.put,qD,qE,qF];clear st90;have st91:True:=trivial))
      have hB:Value.agg cc2=(s.flatL (some ⟨G,0,none⟩) cG pqs).val:=by rw [uE.out];rfl
      rw [hB];clear hB;go_at_call 11;refine (M7 (s.flatL (some ⟨G,0,none⟩) cG pqs) ms W4 HQ.out.1.1 HQ.out.1.2 (HE.out W4 Hh.out).1 HQ.out.2.1 Hn.out).mono ?_;unfold Uz;rintro e W5 ⟨hb,⟨h,_⟩|⟨_,rb,b0,b1,b2,b3,rd,d0,d1,d2,d3,rfl,r1,r2,r3,r4,r5,_⟩⟩
      ·exfalso
       rw [HQ.out.2.2] at h;have:=Ho.out;omega
      have e5:DP (s.flatL (some ⟨G,0,none⟩) cG pqs)=DP s:=by unfold DP;rw [HQ.out.2.2];rfl
      rw [e5] at r5 ⊢;have uh:=qh (show WkRows s rb b0 b1 b2 b3 rd d0 d1 d2 d3 W5 from ⟨r1,r2,r3,r4,r5⟩);rw [hm.out];simp only [Ls.flatL];obtain ⟨W6,xW6,g6,b6,z6⟩:=Ag W5 #[int i64 s.wd,int i64 s.dp,int i64 (mkA s.t0 s.t1),int i64 (mkB s.t0 s.t1),int i64 (mkC s.t0 s.t1),.slice rb s.roles.length rd,int i64 s.bars,.slice b0 s.tempos.length d0,.slice b1 s.pauses.length d1,.slice b2 s.spans.length d2,.slice b3 i d3] 39;obtain ⟨X10,Hi⟩:∃X,W5.heap.size=X:=⟨_,rfl⟩;rw [Hi] at g6;have ui:=qh (Af (Af Hh.out hb) b6);have uj:=qh g6;have Hj:=qh (Ah b6 (Ah hb ug.out));have h7:=qh ((h6.out.below hb (qn _)).below b6 (qn _));have h8:=qh (uh.out.below b6 (qn _));clear r1 r2 r3 r4 r5 e5 g6 b6 z6 hb;have st95:True:=trivial
      go_wp2_with (first
       | (have q:=st95;clear q;refine Dn (by kernel_rfl) 39 _ rfl X8 rfl 39 #[int i64 s.wd,int i64 s.dp,int i64 (mkA s.t0 s.t1),int i64 (mkB s.t0 s.t1),int i64 (mkC s.t0 s.t1),.slice ra s.roles.length rc,int i64 s.bars,.slice a0 s.tempos.length c0,.slice a1 s.pauses.length c1,.slice a2 s.spans.length c2,.slice a3 i c3] (0,0) _ Hj.out Tryz.underlying39 rfl (by kernel_rfl) ?_;simp only [Act.put,qD,qE,qF];clear st95;have st96:True:=trivial)
       | (have q:=st96;clear q;refine Dn (by kernel_rfl) 39 _ rfl X10 rfl 39 #[int i64 s.wd,int i64 s.dp,int i64 (mkA s.t0 s.t1),int i64 (mkB s.t0 s.t1),int i64 (mkC s.t0 s.t1),.slice rb s.roles.length rd,int i64 s.bars,.slice b0 s.tempos.length d0,.slice b1 s.pauses.length d1,.slice b2 s.spans.length d2,.slice b3 i d3] (0,0) _ uj.out Tryz.underlying39 rfl (by kernel_rfl) ?_;simp only [Act.put,qD,qE,qF];clear st96;have st97:True:=trivial)
       | (have q:=st97;clear q;go_at_call 13;have CS:=WT s.wd s.dp (mkA s.t0 s.t1) (mkB s.t0 s.t1) (mkC s.t0 s.t1) s.bars s.roles s.tempos s.pauses s.spans (DP s) ra a0 a1 a2 a3 rb b0 b1 b2 b3 rc c0 c1 c2 c3 rd d0 d1 d2 d3 W6 h7.out.1 h8.out.1 h7.out.2.1 h8.out.2.1 h7.out.2.2.1 h8.out.2.2.1 h7.out.2.2.2.1 h8.out.2.2.2.1 h7.out.2.2.2.2 h8.out.2.2.2.2;rw [hm.out] at CS;refine CS.mono ?_;rintro e W7 ⟨rfl,hb⟩;have uk:=qh (Af ui.out hb);clear hb CS;clear st97;have st98:True:=trivial))
      go_ret;exact ⟨rfl,by have hq:=uk.out;first|exact hq|(rw [h9.out] at hq;exact hq)⟩
end
end Go.Proofs.YtbkemlgfdklpfaaGreatDoor
