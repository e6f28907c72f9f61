/- The walk of the statement: part 1. -/
import Derived.Test.YtbkemlgfdklpfaaDoorZ41
import Derived.Test.YtbkemlgfdklpfaaDoorZ42
import Derived.Test.YtbkemlgfdklpfaaDoorZ35
import Derived.Test.YtbkemlgfdklpfaaDoorZ7
import Derived.Deep.MidRow
import Derived.Test.YtbkemlgfdklpfaaDoorZ4
set_option linter.unusedVariables false
set_option linter.unusedSimpArgs false
set_option maxRecDepth 100000
set_option maxHeartbeats 16000000
namespace Go.Proofs.YtbkemlgfdklpfaaDoor
open Go.Value (int)
open Go.IntKind (i64)
section
open Go Go.RowKit
end
section
open Go Go.RowKit Go.Shelf Go.Deep
structure WkRows(aR aT aP aX aS:Option Addr)(cR cT cP cX cS:Nat)(rs:List Rol)(ts:List Tmp)(ps:List Pau)(xs:List Con)(ss:List Sgn)(W:World):Prop where
 roles:IsRow CZ 4 W (.slice aR rs.length cR) rs
 tempos:IsRow BU 3 W (.slice aT ts.length cT) ts
 pauses:IsRow Cg 4 W (.slice aP ps.length cP) ps
 spans:IsRow Cf 4 W (.slice aX xs.length cX) xs
 signs:IsRow AC 14 W (.slice aS ss.length cS) ss
theorem WkRows.below{aR aT aP aX aS:Option Addr}{cR cT cP cX cS:Nat}{rs:List Rol}{ts:List Tmp}{ps:List Pau}{xs:List Con}{ss:List Sgn}{W V:World}(h:WkRows aR aT aP aX aS cR cT cP cX cS rs ts ps xs ss W)(hb:Below W.heap.size W V):WkRows aR aT aP aX aS cR cT cP cX cS rs ts ps xs ss V :=
 ⟨h.roles.below hb (qn _),h.tempos.below hb (qn _),h.pauses.below hb (qn _),h.spans.below hb (qn _),h.signs.below hb (qn _)⟩
end
section
open Go
theorem VZ(f g:Nat→Nat):∀n:Nat,((List.range n).map λr=>f r+g r).sum=((List.range n).map f).sum+((List.range n).map g).sum
 | 0=>rfl
 | n+1=>by
  rw [List.range_succ];simp only [List.map_append,List.sum_append,List.map_cons,List.map_nil,List.sum_cons,List.sum_nil];rw [VZ f g n];omega
theorem VQ(f:Nat→Nat):∀n:Nat,(∀r,r<n→f r=0)→((List.range n).map f).sum=0
 | 0,_=>rfl
 | n+1,h=>by
  rw [List.range_succ];simp only [List.map_append,List.sum_append,List.map_cons,List.map_nil,List.sum_cons,List.sum_nil];rw [VQ f n (λr hr=>h r (by omega)),h n (by omega)]
  rfl
theorem VW(f:Nat→Nat)(k c:Nat):∀n:Nat,k<n→f k=c→(∀r,r<n→r≠k→f r=0)→((List.range n).map f).sum=c
 | 0,h,_,_=>by omega
 | n+1,hk,hc,h=>by
  rw [List.range_succ];simp only [List.map_append,List.sum_append,List.map_cons,List.map_nil,List.sum_cons,List.sum_nil];by_cases hn:k=n
  ·subst hn
   rw [VQ f k (λr hr=>h r (by omega) (by omega)),hc];omega
  ·rw [VW f k c n (by omega) hc (λr hr hA=>h r (by omega) hA),h n (by omega) (by omega)]
   omega
theorem VV(n m:Nat):∀ss:List Sgn,(∀s∈ss,(0≤s.role∧s.role<n)∧(0≤s.bar∧s.bar<m))→((List.range n).map λr=>((List.range m).map λb=>(ofL (r:Nat) (b:Nat) ss).length).sum).sum=ss.length
 | [],_=>VQ _ n λr _=>VQ _ m λb _=>rfl
 | x::ss,h=>by
  have hx:=h x (by simp);obtain ⟨k,hk⟩:∃k:Nat,x.role=k:=⟨x.role.toNat,by omega⟩;obtain ⟨q,hq⟩:∃q:Nat,x.bar=q:=⟨x.bar.toNat,by omega⟩
  have e:∀r b:Nat,(ofL (r:Nat) (b:Nat) (x::ss)).length=(if r=k∧b=q then 1 else 0)+(ofL (r:Nat) (b:Nat) ss).length:=λr b=>by
   unfold ofL;by_cases h1:r=k∧b=q
   ·obtain ⟨rfl,rfl⟩:=h1
    rw [List.filter_cons_of_pos (by simp [hk,hq])];simp;omega
   ·rw [List.filter_cons_of_neg (by
     simp only [Bool.and_eq_true,decide_eq_true_eq,hk,hq]
     omega),if_neg h1]
    omega
  simp only [e,VZ];rw [VV n m ss (λs hs=>h s (by simp [hs])),List.length_cons];rw [VW _ k 1 n (by omega) (VW _ q 1 m (by omega) (by simp) λb _ hb=>by simp [hb]) λr _ hr=>VQ _ m λb _=>by simp [hr]];omega
end
section
open Go Go.RowKit
theorem Wc{kvs:List (Int×Value)}(k:Int)(v:Value)(k':Int):Ap (Bh kvs k v) k'=if k'=k then some v else Ap kvs k':=by
 unfold Bh
 split
 ·rename_i hs
  unfold Ap at hs ⊢;rw [List.find?_map]
  have e:((λp:Int×Value=>decide (p.1=k')) ∘ λp=>if p.1=k then (p.1,v) else p)=λp=>decide (p.1=k'):=by
   funext p
   simp only [Function.comp]
   split<;>rfl
  rw [e,Option.map_map]
  cases hf:kvs.find? λp=>decide (p.1=k') with
  | none =>
   by_cases h:k'=k
   ·subst h;rw [hf] at hs;cases hs
   ·simp [h]
  | some p =>
   have hp:p.1=k':=by simpa using List.find?_some hf
   by_cases h:k'=k
   ·simp [Function.comp,h,hp]
   ·simp [Function.comp,h,hp]
 ·rename_i hs
  have hn:Ap kvs k=none:=by simpa using hs
  unfold Ap at hn ⊢;rw [List.find?_append];by_cases h:k'=k
  ·subst h
   simp only [Option.map_eq_none_iff] at hn;rw [hn];simp
  ·have h2:decide (k=k')=false:=by simpa using λe=>h e.symm
   simp [h,h2]
structure MapOk(ss:List Sgn)(kvs:List (Int×Value))(D:Sgn→Prop):Prop where
 apart:Ay kvs
 get:∀s∈ss,D s→Ap kvs s.id=some (.agg (AC s).toArray)
theorem MapOk.put{ss:List Sgn}{kvs:List (Int×Value)}{D E:Sgn→Prop}(h:MapOk ss kvs D)(hu:∀a∈ss,∀b∈ss,a.id=b.id→a=b){s:Sgn}(hs:s∈ss)(hE:∀t,E t→D t∨t=s):MapOk ss (Bh kvs s.id (.agg (AC s).toArray)) E :=
 ⟨AI h.apart _ _,λt ht he=>by
  rw [Wc]
  split
  ·rename_i e
   rw [hu t ht s hs e]
  ·rename_i e
   exact h.get t ht ((hE t he).resolve_right λe2=>e (by rw [e2]))⟩
theorem MapOk.weak{ss:List Sgn}{kvs:List (Int×Value)}{D E:Sgn→Prop}(h:MapOk ss kvs D)(hE:∀t∈ss,E t→D t):MapOk ss kvs E:=⟨h.apart,λt ht he=>h.get t ht (hE t ht he)⟩
theorem Wa{l:List Sgn}(h:l.Pairwise (λx y=>x.id<y.id)):∀a∈l,∀b∈l,a.id=b.id→a=b:=λa ha b hb e=>by
 obtain ⟨i,hi⟩:=List.getElem?_of_mem ha;obtain ⟨j,hj⟩:=List.getElem?_of_mem hb;obtain ⟨hA,rfl⟩:=ql.1 hi;obtain ⟨hB,rfl⟩:=ql.1 hj;rw [List.pairwise_iff_getElem] at h;rcases Nat.lt_trichotomy i j with q|rfl|q
 ·have:=h i j hA hB q;omega
 ·rfl
 ·have:=h j i hB hA q;omega
def VS(ss:List Sgn)(r b:Nat):Nat:=((List.range b).map λ(q:Nat)=>(ofL (r:Nat) (q:Nat) ss).length).sum
def VR(ss:List Sgn)(m r:Nat):Nat:=((List.range r).map λ(q:Nat)=>VS ss q m).sum
theorem VT(ss:List Sgn)(r b:Nat):VS ss r (b+1)=VS ss r b+(ofL (r:Nat) (b:Nat) ss).length:=by
 unfold VS;rw [List.range_succ,List.map_append,List.sum_append];simp
theorem VU(ss:List Sgn)(m r:Nat):VR ss m (r+1)=VR ss m r+VS ss r m:=by
 unfold VR;rw [List.range_succ,List.map_append,List.sum_append];simp
theorem VX{k:Wrk}(h:Dj k=0):∀s∈k.signs,(0≤s.role∧s.role<k.roles.length)∧(0≤s.bar∧s.bar<k.clock.bars.toNat):=λs hs=>by
 have:=FI (IR h) s hs;unfold Fc at this;simp only [Bool.and_eq_true] at this;have h1:=AM.1 this.1.1.1.1.2;have h2:=AM.1 this.1.1.1.2;omega
theorem Wh{k:Wrk}(h:Dj k=0):VR k.signs k.clock.bars.toNat k.roles.length=k.signs.length:=VV _ _ k.signs (VX h)
theorem VY(ss:List Sgn)(r b:Nat):VS ss r b≤b*ss.length:=by
 induction b with
 | zero=>simp [VS]
 | succ b ih =>
  rw [VT,Nat.succ_mul];have:(ofL (r:Nat) (b:Nat) ss).length≤ss.length:=List.length_filter_le _ _;omega
theorem Wg(ss:List Sgn)(m r:Nat):VR ss m r≤r*(m*ss.length):=by
 induction r with
 | zero=>simp [VR]
 | succ r ih =>
  rw [VU,Nat.succ_mul];have:=VY ss r m;omega
end
section
open Go Go.RowKit Go.Shelf Go.Deep
structure EoW(w:World)(X3 MB:Nat)(cs:Array Value)(ss:List Sgn)(kvs:List (Int×Value))(D:Sgn→Prop)(W:World):Prop where
 base:Below w.heap.size w W
 box:W.heap[X3]?=some (.cells cs 32 (0,0))
 map:MapAt kI W MB kvs
 ok:MapOk ss kvs D
 low:w.heap.size≤MB
section
variable {w:World} {X3 MB:Nat} {cs:Array Value} {ss:List Sgn} {kvs:List (Int×Value)} {D E:Sgn→Prop} {W V:World}
theorem EoW.below(h:EoW w X3 MB cs ss kvs D W)(hb:Below W.heap.size W V):EoW w X3 MB cs ss kvs D V:=⟨Ag h.base hb,Ah hb h.box,h.map.below hb h.map.lt,h.ok,h.low⟩
theorem EoW.weak(h:EoW w X3 MB cs ss kvs D W)(hE:∀t∈ss,E t→D t):EoW w X3 MB cs ss kvs E W:=⟨h.base,h.box,h.map,h.ok.weak hE,h.low⟩
theorem EoW.isMap(h:EoW w X3 MB cs ss kvs D W):EP W MB:=by
 obtain ⟨es,c,hm,_⟩:=h.map;exact ⟨es,c,hm⟩
theorem EoW.put(h:EoW w X3 MB cs ss kvs D W)(hu:∀a∈ss,∀b∈ss,a.id=b.id→a=b){s:Sgn}(hs:s∈ss)(hE:∀t,E t→D t∨t=s)(hM:MapAt kI V MB (Bh kvs s.id (.agg (AC s).toArray)))(hb:∀n,n≤MB→Below n W V)(ho:∀c,c≠MB→V.heap[c]?=W.heap[c]?):EoW w X3 MB cs ss (Bh kvs s.id (.agg (AC s).toArray)) E V∧W.grownBy V (some MB):=by
 refine ⟨⟨h.base.trans (hb _ h.low),(ho X3 (λe=>?_)).trans h.box,hM,h.ok.put hu hs hE,h.low⟩,?_⟩
 ·obtain ⟨es,c,hm⟩:=h.isMap
  rw [← e,h.box] at hm;cases hm
 ·have b0:=hb 0 (Nat.zero_le _)
  exact ⟨b0.os,b0.tape,b0.output,b0.size,λc _ hc=>ho c (λe=>hc (by rw [e]))⟩
end
theorem IsRow.grownM{α:Type}{enc:α→List Value}{k:Nat}{W V:World}{v:Value}{xs:List α}{m:Nat}(h:IsRow enc k W v xs)(hm:EP W m)(hg:W.grownBy V (some m)):IsRow enc k V v xs:=by
 obtain ⟨ao,c,e,hl,h⟩:=h;refine ⟨ao,c,e,hl,h.imp id ?_⟩;rintro ⟨b,o,e2,hA,hB⟩;exact ⟨b,o,e2,λi x hx j u hu=>BM (hA i x hx j u hu) hm hg,Nat.lt_of_lt_of_le hB hg.size⟩
theorem Wk(wd dp ta tb tc bars:Int)(aR aT aP aX aS:Option Addr)(cR cT cP cX cS:Nat)(rs:List Rol)(ts:List Tmp)(ps:List Pau)(xs:List Con)(ss:List Sgn)(w:World)(hW:WkRows aR aT aP aX aS cR cT cP cX cS rs ts ps xs ss w)(hE:∀V,Below w.heap.size w V→Env V∧EnvK V)(hf:Tr ⟨wd,dp,ta,tb,tc,rs,⟨bars,ts,ps,xs⟩,ss⟩=false) :
  Calls Tryd.prog 3 #[.agg #[int i64 wd,int i64 dp,int i64 ta,int i64 tb,int i64 tc,.slice aR rs.length cR,int i64 bars,.slice aT ts.length cT,.slice aP ps.length cP,.slice aX xs.length cX,.slice aS ss.length cS]] w λe w'=>e=.returned (.bool true)∧Below w.heap.size w w':=by
 have FW:=λV=>UT wd dp ta tb tc bars aR aT aP aX aS cR cT cP cX cS rs ts ps xs ss V
 have CK:=λ(V:World) (hv:Below w.heap.size w V)=>DZ wd dp ta tb tc bars aR aT aP aX aS cR cT cP cX cS rs ts ps xs ss V (hE V hv).2 (hW.below hv).roles (hW.below hv).tempos (hW.below hv).pauses (hW.below hv).spans (hW.below hv).signs
 have HW:=qh hW;have HE:=qh hE;clear hW hE;rw [hf] at FW;clear hf;obtain ⟨nS,hA⟩:∃n,ss.length=n:=⟨_,rfl⟩;obtain ⟨nR,hB⟩:∃n,rs.length=n:=⟨_,rfl⟩;rw [hA,hB] at FW CK ⊢;have hF:=qh hA;have hG:=qh hB;clear hA hB;obtain ⟨A0,xA0,gA0,bA0,sA0⟩:=Af w #[int i64 wd,int i64 dp,int i64 ta,int i64 tb,int i64 tc,.slice aR nR cR,int i64 bars,.slice aT ts.length cT,.slice aP ps.length cP,.slice aX xs.length cX,.slice aS nS cS] 32;obtain ⟨X3,hC⟩:∃X,w.heap.size=X:=⟨_,rfl⟩;rw [hC] at gA0;have HX:=qh gA0;have HB:=qh bA0;have hD:=qh FW;have hH:=qh CK;clear gA0 bA0 sA0 FW CK;have st0:True:=trivial;go_enter Tryd.func3,Tryd.ntmps3
 go_wp2_with (first
  | (have q:=st0;clear q;go_at_call 5;refine (Uj _ (λV hV=>HE.out V (Ag HB.out hV))).mono ?_;rintro e V1 ⟨rfl,hb⟩;have T1:=qh (Ag HB.out hb);clear HB;have HB:=T1;clear T1;have T1:=qh (Ah hb HX.out);clear HX;have HX:=T1;clear T1;clear hb;clear st0;have st1:True:=trivial)
  | (have q:=st1;clear q;refine wpList_load_row rfl 32 _ rfl X3 rfl 32 #[int i64 wd,int i64 dp,int i64 ta,int i64 tb,int i64 tc,.slice aR nR cR,int i64 bars,.slice aT ts.length cT,.slice aP ps.length cP,.slice aX xs.length cX,.slice aS nS cS] (0,0) _ HX.out Tryd.underlying32 rfl (by kernel_rfl) ?_;simp only [Act.put,qD,qE,qF];clear st1;have st2:True:=trivial)
  | (have q:=st2;clear q;go_at_call 6;refine (hD.out _).mono ?_;rintro e V2 ⟨rfl,hb⟩;have T1:=qh (Ag HB.out hb);clear HB;have HB:=T1;clear T1;have T1:=qh (Ah hb HX.out);clear HX;have HX:=T1;clear T1;clear hb;have y5:V2.cell? ⟨X3,5,none⟩=some (.slice aR nR cR):=Aa HX.out 5 rfl;have y6:V2.cell? ⟨X3,6,none⟩=some (int i64 bars):=Aa HX.out 6 rfl;clear st2;have st3:True:=trivial))
 go_ret;exact ⟨rfl,by have hq:=HB.out;first|exact hq|(rw [hC] at hq;exact hq)⟩
theorem Wf(wd dp ta tb tc bars:Int)(aR aT aP aX aS:Option Addr)(cR cT cP cX cS:Nat)(rs:List Rol)(ts:List Tmp)(ps:List Pau)(xs:List Con)(ss:List Sgn)(w:World)(hW:WkRows aR aT aP aX aS cR cT cP cX cS rs ts ps xs ss w)(hE:∀V,Below w.heap.size w V→Env V∧EnvK V)(hf:Tr ⟨wd,dp,ta,tb,tc,rs,⟨bars,ts,ps,xs⟩,ss⟩=true)(h8:8<rs.length) :
  Calls Tryd.prog 3 #[.agg #[int i64 wd,int i64 dp,int i64 ta,int i64 tb,int i64 tc,.slice aR rs.length cR,int i64 bars,.slice aT ts.length cT,.slice aP ps.length cP,.slice aX xs.length cX,.slice aS ss.length cS]] w λe w'=>e=.returned (.bool true)∧Below w.heap.size w w':=by
 have FW:=λV=>UT wd dp ta tb tc bars aR aT aP aX aS cR cT cP cX cS rs ts ps xs ss V
 have CK:=λ(V:World) (hv:Below w.heap.size w V)=>DZ wd dp ta tb tc bars aR aT aP aX aS cR cT cP cX cS rs ts ps xs ss V (hE V hv).2 (hW.below hv).roles (hW.below hv).tempos (hW.below hv).pauses (hW.below hv).spans (hW.below hv).signs
 have HW:=qh hW;have HE:=qh hE;clear hW hE;rw [hf] at FW;clear hf;obtain ⟨nS,hB⟩:∃n,ss.length=n:=⟨_,rfl⟩;obtain ⟨nR,hA⟩:∃n,rs.length=n:=⟨_,rfl⟩;rw [hB,hA] at FW CK ⊢;have hF:=qh hB;have hG:=qh hA;rw [hA] at h8;have hH:(8:Int)<(nR:Int):=by omega
 clear hB hA;obtain ⟨A0,xA0,gA0,bA0,sA0⟩:=Af w #[int i64 wd,int i64 dp,int i64 ta,int i64 tb,int i64 tc,.slice aR nR cR,int i64 bars,.slice aT ts.length cT,.slice aP ps.length cP,.slice aX xs.length cX,.slice aS nS cS] 32;obtain ⟨X3,hC⟩:∃X,w.heap.size=X:=⟨_,rfl⟩;rw [hC] at gA0;have HX:=qh gA0;have HB:=qh bA0;have hD:=qh FW;have hI:=qh CK;clear gA0 bA0 sA0 FW CK;have st0:True:=trivial;go_enter Tryd.func3,Tryd.ntmps3
 go_wp2_with (first
  | (have q:=st0;clear q;go_at_call 5;refine (Uj _ (λV hV=>HE.out V (Ag HB.out hV))).mono ?_;rintro e V1 ⟨rfl,hb⟩;have T1:=qh (Ag HB.out hb);clear HB;have HB:=T1;clear T1;have T1:=qh (Ah hb HX.out);clear HX;have HX:=T1;clear T1;clear hb;clear st0;have st1:True:=trivial)
  | (have q:=st1;clear q;refine wpList_load_row rfl 32 _ rfl X3 rfl 32 #[int i64 wd,int i64 dp,int i64 ta,int i64 tb,int i64 tc,.slice aR nR cR,int i64 bars,.slice aT ts.length cT,.slice aP ps.length cP,.slice aX xs.length cX,.slice aS nS cS] (0,0) _ HX.out Tryd.underlying32 rfl (by kernel_rfl) ?_;simp only [Act.put,qD,qE,qF];clear st1;have st2:True:=trivial)
  | (have q:=st2;clear q;go_at_call 6;refine (hD.out _).mono ?_;rintro e V2 ⟨rfl,hb⟩;have T1:=qh (Ag HB.out hb);clear HB;have HB:=T1;clear T1;have T1:=qh (Ah hb HX.out);clear HX;have HX:=T1;clear T1;clear hb;have y5:V2.cell? ⟨X3,5,none⟩=some (.slice aR nR cR):=Aa HX.out 5 rfl;have y6:V2.cell? ⟨X3,6,none⟩=some (int i64 bars):=Aa HX.out 6 rfl;clear st2;have st3:True:=trivial))
 go_ret;exact ⟨rfl,by have hq:=HB.out;first|exact hq|(rw [hC] at hq;exact hq)⟩
theorem Wd(wd dp ta tb tc bars:Int)(aR aT aP aX aS:Option Addr)(cR cT cP cX cS:Nat)(rs:List Rol)(ts:List Tmp)(ps:List Pau)(xs:List Con)(ss:List Sgn)(w:World)(hW:WkRows aR aT aP aX aS cR cT cP cX cS rs ts ps xs ss w)(hE:∀V,Below w.heap.size w V→Env V∧EnvK V)(hf:Tr ⟨wd,dp,ta,tb,tc,rs,⟨bars,ts,ps,xs⟩,ss⟩=true)(h8:¬8<rs.length)(h6:64<bars) :
  Calls Tryd.prog 3 #[.agg #[int i64 wd,int i64 dp,int i64 ta,int i64 tb,int i64 tc,.slice aR rs.length cR,int i64 bars,.slice aT ts.length cT,.slice aP ps.length cP,.slice aX xs.length cX,.slice aS ss.length cS]] w λe w'=>e=.returned (.bool true)∧Below w.heap.size w w':=by
 have FW:=λV=>UT wd dp ta tb tc bars aR aT aP aX aS cR cT cP cX cS rs ts ps xs ss V
 have CK:=λ(V:World) (hv:Below w.heap.size w V)=>DZ wd dp ta tb tc bars aR aT aP aX aS cR cT cP cX cS rs ts ps xs ss V (hE V hv).2 (hW.below hv).roles (hW.below hv).tempos (hW.below hv).pauses (hW.below hv).spans (hW.below hv).signs
 have HW:=qh hW;have HE:=qh hE;clear hW hE;rw [hf] at FW;clear hf;obtain ⟨nS,hB⟩:∃n,ss.length=n:=⟨_,rfl⟩;obtain ⟨nR,hA⟩:∃n,rs.length=n:=⟨_,rfl⟩;rw [hB,hA] at FW CK ⊢;have hF:=qh hB;have hG:=qh hA;rw [hA] at h8;have hH:((8:Int)<(nR:Int))=False:=eq_false (by omega);clear hB hA;obtain ⟨A0,xA0,gA0,bA0,sA0⟩:=Af w #[int i64 wd,int i64 dp,int i64 ta,int i64 tb,int i64 tc,.slice aR nR cR,int i64 bars,.slice aT ts.length cT,.slice aP ps.length cP,.slice aX xs.length cX,.slice aS nS cS] 32;obtain ⟨X3,hC⟩:∃X,w.heap.size=X:=⟨_,rfl⟩;rw [hC] at gA0;have HX:=qh gA0;have HB:=qh bA0;have hD:=qh FW;have hI:=qh CK;clear gA0 bA0 sA0 FW CK;have st0:True:=trivial;go_enter Tryd.func3,Tryd.ntmps3
 go_wp2_with (first
  | (have q:=st0;clear q;go_at_call 5;refine (Uj _ (λV hV=>HE.out V (Ag HB.out hV))).mono ?_;rintro e V1 ⟨rfl,hb⟩;have T1:=qh (Ag HB.out hb);clear HB;have HB:=T1;clear T1;have T1:=qh (Ah hb HX.out);clear HX;have HX:=T1;clear T1;clear hb;clear st0;have st1:True:=trivial)
  | (have q:=st1;clear q;refine wpList_load_row rfl 32 _ rfl X3 rfl 32 #[int i64 wd,int i64 dp,int i64 ta,int i64 tb,int i64 tc,.slice aR nR cR,int i64 bars,.slice aT ts.length cT,.slice aP ps.length cP,.slice aX xs.length cX,.slice aS nS cS] (0,0) _ HX.out Tryd.underlying32 rfl (by kernel_rfl) ?_;simp only [Act.put,qD,qE,qF];clear st1;have st2:True:=trivial)
  | (have q:=st2;clear q;go_at_call 6;refine (hD.out _).mono ?_;rintro e V2 ⟨rfl,hb⟩;have T1:=qh (Ag HB.out hb);clear HB;have HB:=T1;clear T1;have T1:=qh (Ah hb HX.out);clear HX;have HX:=T1;clear T1;clear hb;have y5:V2.cell? ⟨X3,5,none⟩=some (.slice aR nR cR):=Aa HX.out 5 rfl;have y6:V2.cell? ⟨X3,6,none⟩=some (int i64 bars):=Aa HX.out 6 rfl;clear st2;have st3:True:=trivial))
 go_ret;exact ⟨rfl,by have hq:=HB.out;first|exact hq|(rw [hC] at hq;exact hq)⟩
theorem Wj(wd dp ta tb tc bars:Int)(aR aT aP aX aS:Option Addr)(cR cT cP cX cS:Nat)(rs:List Rol)(ts:List Tmp)(ps:List Pau)(xs:List Con)(ss:List Sgn)(w:World)(hW:WkRows aR aT aP aX aS cR cT cP cX cS rs ts ps xs ss w)(hE:∀V,Below w.heap.size w V→Env V∧EnvK V)(hf:Tr ⟨wd,dp,ta,tb,tc,rs,⟨bars,ts,ps,xs⟩,ss⟩=true)(h8:¬8<rs.length)(h6:(64<bars)=False)(c:Int)(hc:Dj ⟨wd,dp,ta,tb,tc,rs,⟨bars,ts,ps,xs⟩,ss⟩=c)(hD:¬c=0) :
  Calls Tryd.prog 3 #[.agg #[int i64 wd,int i64 dp,int i64 ta,int i64 tb,int i64 tc,.slice aR rs.length cR,int i64 bars,.slice aT ts.length cT,.slice aP ps.length cP,.slice aX xs.length cX,.slice aS ss.length cS]] w λe w'=>e=.returned (.bool true)∧Below w.heap.size w w':=by
 have FW:=λV=>UT wd dp ta tb tc bars aR aT aP aX aS cR cT cP cX cS rs ts ps xs ss V
 have CK:=λ(V:World) (hv:Below w.heap.size w V)=>DZ wd dp ta tb tc bars aR aT aP aX aS cR cT cP cX cS rs ts ps xs ss V (hE V hv).2 (hW.below hv).roles (hW.below hv).tempos (hW.below hv).pauses (hW.below hv).spans (hW.below hv).signs
 have HW:=qh hW;have HE:=qh hE;clear hW hE;rw [hf] at FW;rw [hc] at CK;clear hf hc;obtain ⟨nS,hB⟩:∃n,ss.length=n:=⟨_,rfl⟩;obtain ⟨nR,hA⟩:∃n,rs.length=n:=⟨_,rfl⟩;rw [hB,hA] at FW CK ⊢;have hH:=qh hB;have hI:=qh hA;rw [hA] at h8;have hJ:((8:Int)<(nR:Int))=False:=eq_false (by omega);have hK:(c != 0)=true:=by simpa using hD
 clear hB hA;obtain ⟨A0,xA0,gA0,bA0,sA0⟩:=Af w #[int i64 wd,int i64 dp,int i64 ta,int i64 tb,int i64 tc,.slice aR nR cR,int i64 bars,.slice aT ts.length cT,.slice aP ps.length cP,.slice aX xs.length cX,.slice aS nS cS] 32;obtain ⟨X3,hC⟩:∃X,w.heap.size=X:=⟨_,rfl⟩;rw [hC] at gA0;have HX:=qh gA0;have HB:=qh bA0;have hF:=qh FW;have hG:=qh CK;clear gA0 bA0 sA0 FW CK;have st0:True:=trivial;go_enter Tryd.func3,Tryd.ntmps3
 go_wp2_with (first
  | (have q:=st0;clear q;go_at_call 5;refine (Uj _ (λV hV=>HE.out V (Ag HB.out hV))).mono ?_;rintro e V1 ⟨rfl,hb⟩;have T1:=qh (Ag HB.out hb);clear HB;have HB:=T1;clear T1;have T1:=qh (Ah hb HX.out);clear HX;have HX:=T1;clear T1;clear hb;clear st0;have st1:True:=trivial)
  | (have q:=st1;clear q;refine wpList_load_row rfl 32 _ rfl X3 rfl 32 #[int i64 wd,int i64 dp,int i64 ta,int i64 tb,int i64 tc,.slice aR nR cR,int i64 bars,.slice aT ts.length cT,.slice aP ps.length cP,.slice aX xs.length cX,.slice aS nS cS] (0,0) _ HX.out Tryd.underlying32 rfl (by kernel_rfl) ?_;simp only [Act.put,qD,qE,qF];clear st1;have st2:True:=trivial)
  | (have q:=st2;clear q;go_at_call 6;refine (hF.out _).mono ?_;rintro e V2 ⟨rfl,hb⟩;have T1:=qh (Ag HB.out hb);clear HB;have HB:=T1;clear T1;have T1:=qh (Ah hb HX.out);clear HX;have HX:=T1;clear T1;clear hb;have y5:V2.cell? ⟨X3,5,none⟩=some (.slice aR nR cR):=Aa HX.out 5 rfl;have y6:V2.cell? ⟨X3,6,none⟩=some (int i64 bars):=Aa HX.out 6 rfl;clear st2;have st3:True:=trivial)
  | (have q:=st3;clear q;refine Du (by kernel_rfl) 32 _ rfl X3 rfl 32 #[int i64 wd,int i64 dp,int i64 ta,int i64 tb,int i64 tc,.slice aR nR cR,int i64 bars,.slice aT ts.length cT,.slice aP ps.length cP,.slice aX xs.length cX,.slice aS nS cS] (0,0) _ HX.out Tryd.underlying32 rfl (by kernel_rfl) ?_;simp only [Act.put,qD,qE,qF];clear st3;have st4:True:=trivial)
  | (have q:=st4;clear q;go_at_call 7;refine (hG.out _ HB.out).mono ?_;rintro e V3 ⟨rfl,hb⟩;have T1:=qh (Ag HB.out hb);clear HB;have HB:=T1;clear T1;have T1:=qh (Ah hb HX.out);clear HX;have HX:=T1;clear T1;clear hb y5 y6;clear st4;have st5:True:=trivial))
 go_ret;exact ⟨rfl,by have hq:=HB.out;first|exact hq|(rw [hC] at hq;exact hq)⟩
end
section
open Go Go.RowKit Go.Shelf Go.Deep
theorem Wl{α:Type}{P:α→Prop}{l:List α}{j:Nat}{x t:α}(hx:l[j]?=some x)(h:P t∨t∈l.take (j+1)):(P t∨t∈l.take j)∨t=x:=by
 rcases h with h|h
 ·exact Or.inl (Or.inl h)
 ·rw [List.take_add_one,hx] at h
  rcases List.mem_append.1 h with h|h
  ·exact Or.inl (Or.inr h)
  ·simp at h;exact Or.inr h
theorem We(wd dp ta tb tc bars:Int)(aR aT aP aX aS:Option Addr)(cR cT cP cX cS:Nat)(rs:List Rol)(ts:List Tmp)(ps:List Pau)(xs:List Con)(ss:List Sgn)(w:World)(hW:WkRows aR aT aP aX aS cR cT cP cX cS rs ts ps xs ss w)(hE:∀V,Below w.heap.size w V→Env V∧EnvK V)(hf:Tr ⟨wd,dp,ta,tb,tc,rs,⟨bars,ts,ps,xs⟩,ss⟩=true)(h8:¬8<rs.length)(h6:¬64<bars)(hc:Dj ⟨wd,dp,ta,tb,tc,rs,⟨bars,ts,ps,xs⟩,ss⟩=0) :
  Calls Tryd.prog 3 #[.agg #[int i64 wd,int i64 dp,int i64 ta,int i64 tb,int i64 tc,.slice aR rs.length cR,int i64 bars,.slice aT ts.length cT,.slice aP ps.length cP,.slice aX xs.length cX,.slice aS ss.length cS]] w λe w'=>e=.returned (.bool true)∧Below w.heap.size w w':=by
 have FW:=λV=>UT wd dp ta tb tc bars aR aT aP aX aS cR cT cP cX cS rs ts ps xs ss V
 have CK:=λ(V:World) (hv:Below w.heap.size w V)=>DZ wd dp ta tb tc bars aR aT aP aX aS cR cT cP cX cS rs ts ps xs ss V (hE V hv).2 (hW.below hv).roles (hW.below hv).tempos (hW.below hv).pauses (hW.below hv).spans (hW.below hv).signs
 have HW:=qh hW;have HE:=qh hE;clear hW hE;have ha:=VX hc;have Ha:=Wa (Gw (IR hc));have hD:=Wh hc;have hH:=FI (IR hc);have OA:=λ(V:World) (hv:Below w.heap.size w V) (r b:Int) (hr:inB r 0 ((rs.length:Int)-1)=true) (hb:inB b 0 (bars-1)=true)=>TF wd dp ta tb tc bars aR aT aP aX aS cR cT cP cX cS rs ts ps xs ss r b V (HE.out V hv).2 (HW.out.below hv).roles (HW.out.below hv).tempos (HW.out.below hv).pauses (HW.out.below hv).spans (HW.out.below hv).signs hc hr hb
 have hF:=(JG hc).1;have Hp:=Fm (JG hc).2.1;unfold Fj at hF;simp only [Bool.and_eq_true,decide_eq_true_eq] at hF;have HC:=hF.2;have Hq:=hF.1;obtain ⟨m,rfl⟩:∃m:Nat,bars=(m:Int):=⟨bars.toNat,by omega⟩;simp only [Int.toNat_natCast] at ha hD;rw [hf] at FW;rw [hc] at CK;clear hf hF;obtain ⟨nS,hd⟩:∃n,ss.length=n:=⟨_,rfl⟩;obtain ⟨nR,h0⟩:∃n,rs.length=n:=⟨_,rfl⟩;rw [hd,h0] at FW CK ⊢;have h3:=qh hd;have H9:=qh h0;have uA:=@run_makeMap Tryd.prog;rw [hd] at HC hD;rw [h0] at Hq h8 ha hD OA;rw [hd] at OA;clear hd h0;have uB:nR≤8:=by omega
 have Hr:m≤64:=by omega
 have uC:((8:Int)<(nR:Int))=False:=eq_false (by omega);have uD:((64:Int)<(m:Int))=False:=eq_false (by omega);have h4:=qh ha;have HU:=qh Ha;have HD:=qh hD;have Hs:=qh OA;have HR:=qh hH;clear ha Ha hD OA hc hH h8 h6;obtain ⟨A0,xA0,gA0,bA0,sA0⟩:=Af w #[int i64 wd,int i64 dp,int i64 ta,int i64 tb,int i64 tc,.slice aR nR cR,int i64 (m:Nat),.slice aT ts.length cT,.slice aP ps.length cP,.slice aX xs.length cX,.slice aS nS cS] 32;obtain ⟨X3,Hb⟩:∃X,w.heap.size=X:=⟨_,rfl⟩;rw [Hb] at gA0;have HX:=qh gA0;have HB:=qh bA0;have Ht:=qh FW;have Hu:=qh CK;clear gA0 bA0 sA0 FW CK;have st0:True:=trivial;go_enter Tryd.func3,Tryd.ntmps3
 go_wp2_with (first
  | (have q:=st0;clear q;go_at_call 5;refine (Uj _ (λV hV=>HE.out V (Ag HB.out hV))).mono ?_;rintro e V1 ⟨rfl,hb⟩;have T1:=qh (Ag HB.out hb);clear HB;have HB:=T1;clear T1;have T1:=qh (Ah hb HX.out);clear HX;have HX:=T1;clear T1;clear hb;clear st0;have st1:True:=trivial)
  | (have q:=st1;clear q;refine wpList_load_row rfl 32 _ rfl X3 rfl 32 #[int i64 wd,int i64 dp,int i64 ta,int i64 tb,int i64 tc,.slice aR nR cR,int i64 (m:Nat),.slice aT ts.length cT,.slice aP ps.length cP,.slice aX xs.length cX,.slice aS nS cS] (0,0) _ HX.out Tryd.underlying32 rfl (by kernel_rfl) ?_;simp only [Act.put,qD,qE,qF];clear st1;have st2:True:=trivial)
  | (have q:=st2;clear q;go_at_call 6;refine (Ht.out _).mono ?_;rintro e V2 ⟨rfl,hb⟩;have T1:=qh (Ag HB.out hb);clear HB;have HB:=T1;clear T1;have T1:=qh (Ah hb HX.out);clear HX;have HX:=T1;clear T1;clear hb;have y5:V2.cell? ⟨X3,5,none⟩=some (.slice aR nR cR):=Aa HX.out 5 rfl;have y6:V2.cell? ⟨X3,6,none⟩=some (int i64 (m:Nat)):=Aa HX.out 6 rfl;clear st2;have st3:True:=trivial)
  | (have q:=st3;clear q;refine Du (by kernel_rfl) 32 _ rfl X3 rfl 32 #[int i64 wd,int i64 dp,int i64 ta,int i64 tb,int i64 tc,.slice aR nR cR,int i64 (m:Nat),.slice aT ts.length cT,.slice aP ps.length cP,.slice aX xs.length cX,.slice aS nS cS] (0,0) _ HX.out Tryd.underlying32 rfl (by kernel_rfl) ?_;simp only [Act.put,qD,qE,qF];clear st3;have st4:True:=trivial)
  | (have q:=st4;clear q;go_at_call 7;refine (Hu.out _ HB.out).mono ?_;rintro e V3 ⟨rfl,hb⟩;have T1:=qh (Ag HB.out hb);clear HB;have HB:=T1;clear T1;have T1:=qh (Ah hb HX.out);clear HX;have HX:=T1;clear T1;clear hb y5 y6;obtain ⟨A5,xA5⟩:∃A,V3.alloc (.map #[] 0)=A:=⟨_,rfl⟩;obtain ⟨MB,Hc⟩:∃X,V3.heap.size=X:=⟨_,rfl⟩;have bA5:Below V3.heap.size V3 A5:=(by rw [← xA5];exact (Below.refl _ _).alloc (qn _) _);have Hd:=qh (show EoW w X3 MB #[int i64 wd,int i64 dp,int i64 ta,int i64 tb,int i64 tc,.slice aR nR cR,int i64 (m:Nat),.slice aT ts.length cT,.slice aP ps.length cP,.slice aX xs.length cX,.slice aS nS cS] ss [] (λs=>s.role<((0:Nat):Int)) A5 from ⟨Ag HB.out bA5,Ah bA5 HX.out,(by rw [← xA5,← Hc];exact MapAt.new V3),⟨List.nodup_nil,λs hs h=>absurd h (by have:=(h4.out s hs).1.1;omega)⟩,(by rw [← Hc];exact HB.out.size)⟩);clear bA5 HX HB;have y5:A5.cell? ⟨X3,5,none⟩=some (.slice aR nR cR):=Aa Hd.out.box 5 rfl;clear st4;have st5:True:=trivial))
 go_loopw [43,4] (λiv mv wr=>∃(r:Nat) (kvs:List (Int×Value)),iv=int i64 r∧mv=int i64 (VR ss m r:Nat)∧r≤nR∧Hid (EoW w X3 MB #[int i64 wd,int i64 dp,int i64 ta,int i64 tb,int i64 tc,.slice aR nR cR,int i64 (m:Nat),.slice aT ts.length cT,.slice aP ps.length cP,.slice aX xs.length cX,.slice aS nS cS] ss kvs (λs=>s.role<((r:Nat):Int)) wr)) (λiv _ _=>nR+1-(intOf iv).toNat)
 case atStart=>exact ⟨0,[],rfl,rfl,Nat.zero_le _,Hd⟩
 case round =>
  obtain ⟨r,kvs,rfl,rfl,uE,hZ⟩:=hrel;by_cases hr:r<nR
  ·have Hv:((r:Nat):Int)<(nR:Int):=by omega
   have y6:wr.cell? ⟨X3,6,none⟩=some (int i64 (m:Nat)):=Aa hZ.out.box 6 rfl;go_wp2_with fail;go_loopw [49,4] (λbv mv wr2=>∃(b:Nat) (kvs:List (Int×Value)),bv=int i64 b∧mv=int i64 (VR ss m r+VS ss r b:Nat)∧b≤m∧Hid (EoW w X3 MB #[int i64 wd,int i64 dp,int i64 ta,int i64 tb,int i64 tc,.slice aR nR cR,int i64 (m:Nat),.slice aT ts.length cT,.slice aP ps.length cP,.slice aX xs.length cX,.slice aS nS cS] ss kvs (λs=>s.role<((r:Nat):Int)∨(s.role=((r:Nat):Int)∧s.bar<((b:Nat):Int))) wr2)) (λbv _ _=>m+1-(intOf bv).toNat)
   case atStart=>exact ⟨0,kvs,rfl,rfl,Nat.zero_le _,qh (hZ.out.weak λt ht h=>h.elim id λh2=>absurd h2.2 (by have:=(h4.out t ht).2.1;omega))⟩
   case round =>
    clear hZ y6;obtain ⟨b,kvs2,rfl,rfl,uF,hI⟩:=hrel;by_cases hb:b<m
    ·have Hw:((b:Nat):Int)<(m:Int):=by omega
     have st0:True:=trivial
     go_wp2_with (first
      | (have q:=st0;clear q;refine wpList_load_row rfl 32 _ rfl X3 rfl 32 #[int i64 wd,int i64 dp,int i64 ta,int i64 tb,int i64 tc,.slice aR nR cR,int i64 (m:Nat),.slice aT ts.length cT,.slice aP ps.length cP,.slice aX xs.length cX,.slice aS nS cS] (0,0) _ hI.out.box Tryd.underlying32 rfl (by kernel_rfl) ?_;simp only [Act.put,qD,qE,qF];clear st0;have st1:True:=trivial)
      | (have q:=st1;clear q;go_at_call 8;refine (Hs.out _ hI.out.base ((r:Nat):Int) ((b:Nat):Int) (AM.2 ⟨by omega,by omega⟩) (AM.2 ⟨by omega,by omega⟩)).mono ?_;rintro e W8 ⟨He,ao,c,l,rfl,hO,hP,he,Hf⟩;have T1:=qh (hI.out.below He);clear hI;have hI:=T1;clear T1;obtain ⟨nL,HF⟩:∃n,l.length=n:=⟨_,rfl⟩;rw [HF] at hO hP ⊢;have hg:=qh hO;have hh:=qh hP;have hQ:=qh he;have Hg:=qh Hf;have hk:=qh HF;clear He hO hP he Hf HF;clear st1;have st2:True:=trivial))
     obtain ⟨N0,Hx⟩:∃N,VR ss m r+VS ss r b=N:=⟨_,rfl⟩
     have Hy:N0≤100000000:=by
      have q1:=Wg ss m r;have q2:=VY ss r b;have q3:=h3.out;rw [q3] at q1 q2;have q4:m*nS≤64*4096:=Nat.mul_le_mul Hr HC;have q5:r*(m*nS)≤8*(64*4096):=Nat.mul_le_mul (by omega) q4;have q6:b*nS≤64*4096:=Nat.mul_le_mul (by omega) HC;omega
     have uG:nL≤4096:=by
      have:=hh.out;have q:(ofL ((r:Nat):Int) ((b:Nat):Int) ss).length≤ss.length:=List.length_filter_le _ _;have q3:=h3.out;omega
     go_loopw [63,4] (λjv mv wr3=>∃(j:Nat) (kvs:List (Int×Value)),jv=int i64 j∧mv=int i64 (N0+j:Nat)∧j≤nL∧Hid (EoW w X3 MB #[int i64 wd,int i64 dp,int i64 ta,int i64 tb,int i64 tc,.slice aR nR cR,int i64 (m:Nat),.slice aT ts.length cT,.slice aP ps.length cP,.slice aX xs.length cX,.slice aS nS cS] ss kvs (λs=>(s.role<((r:Nat):Int)∨(s.role=((r:Nat):Int)∧s.bar<((b:Nat):Int)))∨s∈l.take j) wr3)∧Hid (IsRow AC 14 wr3 (.slice ao nL c) l)) (λjv _ _=>nL+1-(intOf jv).toNat)
     case atStart=>exact ⟨0,kvs2,rfl,congrArg (Value.int .i64) (by omega),Nat.zero_le _,qh (hI.out.weak λt ht h=>h.elim id λh2=>by simp at h2),hg⟩
     case round =>
      clear hI hg;obtain ⟨j,kvs3,rfl,rfl,uH,HG,hR⟩:=hrel;by_cases hj:j<nL
      ·have Hz:((j:Nat):Int)<(nL:Int):=by omega
       obtain ⟨x,hx⟩:∃x,l[j]?=some x:=⟨_,qg (by rw [hk.out];exact hj)⟩;have HH:=(hQ.out x).1 (List.mem_of_getElem? hx);have HI:=(List.mem_filter.1 HH).1;have Hh:=(List.mem_filter.1 HH).2;simp only [Bool.and_eq_true,decide_eq_true_eq] at Hh;have hl:=Mu (HR.out x HI);obtain ⟨g,o,rfl,hA,_⟩:=hR.out.block hx;have HJ:Hid (∀(q:Nat) (z:Sgn),l[q]?=some z→wr.rangeAt g (o+q*14) (AC z)):=qh (λq z hz u v hv=>hA q z hz u v hv);have HX:=qh hx;have H0:=qh HI;have HK:=qh hl;clear HH hx HI hl hA
       cases x with
       | mk s0 s1 s2 s3 s4 s5 s6 s7 s8 s9 s10 s11 s12 s13 =>
       obtain ⟨Hi,Hj⟩:=Hh;simp only at Hi Hj;subst Hi Hj;have HA:Hid (wr.rangeAt g (o+j*14) [int i64 s0,int i64 ((r:Nat):Int),int i64 ((b:Nat):Int),int i64 s3,int i64 s4,int i64 s5,int i64 s6,int i64 s7,int i64 s8,int i64 s9,int i64 s10,int i64 s11,int i64 s12,int i64 s13]):=qh (HJ.out j _ HX.out);obtain ⟨A10,xA10,gA10,bA10,sA10⟩:=Af wr #[int i64 s0,int i64 ((r:Nat):Int),int i64 ((b:Nat):Int),int i64 s3,int i64 s4,int i64 s5,int i64 s6,int i64 s7,int i64 s8,int i64 s9,int i64 s10,int i64 s11,int i64 s12,int i64 s13] 43;obtain ⟨XB,HL⟩:∃X,wr.heap.size=X:=⟨_,rfl⟩;rw [HL] at gA10;have c0:A10.cell? ⟨XB,0,none⟩=some (int i64 s0):=Aa gA10 0 rfl;have c1:A10.cell? ⟨XB,1,none⟩=some (int i64 ((r:Nat):Int)):=Aa gA10 1 rfl;have c2:A10.cell? ⟨XB,2,none⟩=some (int i64 ((b:Nat):Int)):=Aa gA10 2 rfl;have hS:=qh gA10;have hT:=qh (HG.out.below bA10);have hJ:=qh (hR.out.below bA10 (qn _));have hm:Hid (∀(q:Nat) (z:Sgn),l[q]?=some z→A10.rangeAt g (o+q*14) (AC z)):=qh (λq z hz u v hv=>Ad bA10 (HJ.out q z hz u v hv));clear gA10 bA10 sA10 HJ HG hR;have uI:IntKind.i64.wrap ((N0:Int)+(j:Int)+1)=(N0:Int)+(j:Int)+1:=IntWalk.i64_in _ (by omega);have st20:True:=trivial
       go_wp2_with (first
        | (have q:=st20;clear q;refine wpList_load_mid rfl 43 _ rfl g (o+j*14) rfl [int i64 s0,int i64 ((r:Nat):Int),int i64 ((b:Nat):Int),int i64 s3,int i64 s4,int i64 s5,int i64 s6,int i64 s7,int i64 s8,int i64 s9,int i64 s10,int i64 s11,int i64 s12,int i64 s13] _ HA.out Tryd.underlying43 rfl (by kernel_rfl) ?_;simp only [Act.put,qD,qE,qF];clear st20;have st21:True:=trivial)
        | (have q:=st21;clear q;refine wpList_load_row rfl 43 _ rfl XB rfl 43 #[int i64 s0,int i64 ((r:Nat):Int),int i64 ((b:Nat):Int),int i64 s3,int i64 s4,int i64 s5,int i64 s6,int i64 s7,int i64 s8,int i64 s9,int i64 s10,int i64 s11,int i64 s12,int i64 s13] (0,0) _ hS.out Tryd.underlying43 rfl (by kernel_rfl) ?_;simp only [Act.put,qD,qE,qF];obtain ⟨ob,hU,hM⟩:=AA (P:=Tryd.prog) (T:=37) B5 Tryd.underlying37 Tryd.underlying3 hT.out.map hT.out.ok.apart s0 (.agg #[int i64 s0,int i64 ((r:Nat):Int),int i64 ((b:Nat):Int),int i64 s3,int i64 s4,int i64 s5,int i64 s6,int i64 s7,int i64 s8,int i64 s9,int i64 s10,int i64 s11,int i64 s12,int i64 s13]);have HM:∀n,n≤MB→Below n A10 { A10 with heap:=A10.heap.setIfInBounds MB ob }:=λn hn=>Am A10 MB ob hn;have HN:∀c,c≠MB→({ A10 with heap:=A10.heap.setIfInBounds MB ob }:World).heap[c]?=A10.heap[c]?:=λc hc=>Array.getElem?_setIfInBounds_ne (λe=>hc e.symm);obtain ⟨W11,ho⟩:∃W:World,{ A10 with heap:=A10.heap.setIfInBounds MB ob }=W:=⟨_,rfl⟩;rw [ho] at hU hM HM HN;have Hk:(Instr.mapUpdate 37 (.map (some MB)) (int i64 s0) (.agg #[int i64 s0,int i64 ((r:Nat):Int),int i64 ((b:Nat):Int),int i64 s3,int i64 s4,int i64 s5,int i64 s6,int i64 s7,int i64 s8,int i64 s9,int i64 s10,int i64 s11,int i64 s12,int i64 s13])).run Tryd.prog A10=.ok () W11:=hU;obtain ⟨Hl,h5⟩:=hT.out.put HU.out H0.out (E:=λs=>(s.role<((r:Nat):Int)∨(s.role=((r:Nat):Int)∧s.bar<((b:Nat):Int)))∨s∈l.take (j+1)) (λt ht=>Wl (P:=λs=>s.role<((r:Nat):Int)∨(s.role=((r:Nat):Int)∧s.bar<((b:Nat):Int))) HX.out ht) hM HM HN;have hG:=qh Hl;have hX:=Ck hS.out hT.out.isMap h5;have hY:=qh hX;have hB:=qh (hJ.out.grownM hT.out.isMap h5);have hp:Hid (∀(q:Nat) (z:Sgn),l[q]?=some z→W11.rangeAt g (o+q*14) (AC z)):=qh (λq z hz u v hv=>BM (hm.out q z hz u v hv) hT.out.isMap h5);have d0:W11.cell? ⟨XB,0,none⟩=some (int i64 s0):=Aa hX 0 rfl;clear hM hU ho HM HN Hl h5 hX hT hJ hm hS c0 c1 c2;clear st21;have st22:True:=trivial))
       ·go_roundw
        case rel=>exact ⟨j+1,_,by go_num,congrArg (Value.int .i64) (by omega),by omega,hG,hB⟩
        case measure=>first|omega|(simp [intOf];omega)
       ·have H1:(((j:Nat):Int)==0)=false:=by assumption
        have H2:¬j=0:=λe=>by subst e;exact absurd H1 (by decide)
        obtain ⟨q,hq⟩:∃q,q+1=j:=⟨j-1,by omega⟩;obtain ⟨y,hy⟩:∃y,l[q]?=some y:=⟨_,qg (by rw [hk.out];omega)⟩;have HO:=Mu (HR.out y (List.mem_filter.1 ((hQ.out y).1 (List.mem_of_getElem? hy))).1)
        have h7:SL y (⟨s0,((r:Nat):Int),((b:Nat):Int),s3,s4,s5,s6,s7,s8,s9,s10,s11,s12,s13⟩:Sgn):=by
         have h:=List.pairwise_iff_getElem.1 Hg.out q j (by rw [hk.out];omega) (by rw [hk.out];omega) (by omega);rw [(ql.1 hy).2,(ql.1 HX.out).2] at h;exact h
        cases y with
        | mk t0 t1 t2 t3 t4 t5 t6 t7 t8 t9 t10 t11 t12 t13 =>
        have h9:=hp.out q _ hy;have HP:Hid (W11.cell? ⟨g,o+q*14,none⟩=some (int i64 t0)):=qh (h9 0 _ rfl);have hC:Hid (W11.drew.rangeAt g (o+q*14+10) [int i64 t10,int i64 t11]∧W11.drew.rangeAt XB 10 [int i64 s10,int i64 s11]):=qh ⟨λu v hv=>by match u,hv with|0,hv=>cases hv;exact h9 10 _ rfl|1,hv=>cases hv;exact h9 11 _ rfl,λu v hv=>by match u,hv with|0,hv=>cases hv;exact Aa hY.out 10 rfl|1,hv=>cases hv;exact Aa hY.out 11 rfl⟩;have H3:Hid (W11.drew.cell? ⟨XB,0,none⟩=some (int i64 s0)):=qh d0;have HP:Hid (W11.drew.cell? ⟨g,o+q*14,none⟩=some (int i64 t0)):=HP;have T1:=qh (hG.out.below (Below.refl _ _).drew);clear hG;have hG:=T1;clear T1;have T1:=qh (hB.out.below (Below.refl _ _).drew (qn _));clear hB;have hB:=T1;clear T1;have Hm:Hid (IntKind.i64.wrap (((j:Nat):Int)-1)=((q:Nat):Int)):=qh ((IntWalk.i64_in _ (by omega)).trans (by omega));have Hn:Hid (((q:Nat):Int)<(nL:Int)):=qh (by omega);unfold SL at h7;simp only at h7 HO
        obtain ⟨K,hK,hu⟩:∃K:Int,CW (t10*s11) (s10*t11)=K∧(K=-1∨(K=0∧t0<s0)):=by
         rcases h7 with h|⟨h,h2⟩
         ·exact ⟨-1,JR h,Or.inl rfl⟩
         ·exact ⟨0,JP h,Or.inr ⟨rfl,h2⟩⟩
        have hV:EV t10 t11 s10 s11=.tuple #[int i64 K,int i64 0]:=by
         unfold EV;have H4:Bs s10 s11=true:=HK.out;rw [HO,H4,hK];rfl
        have HV:=qh hV;clear hy HO h7 h9 hV hK hY hp Hg d0;refine wp_region_held (S:=λV=>V.rangeAt g (o+q*14+10) [int i64 t10,int i64 t11]∧V.rangeAt XB 10 [int i64 s10,int i64 s11]) (by kernel_rfl) ?_;refine tk 0 _ (.slice (some ⟨g,o,none⟩) nL c) rfl (λV hb=>by go_simp) hC.out ?_
        try simp only [Act.put,qA,qB,qC,qD,qE,qF]
        refine tk 1 _ (int i64 ((j:Nat):Int)) rfl (λV hb=>by go_simp) hC.out ?_
        try simp only [Act.put,qA,qB,qC,qD,qE,qF]
        refine tk 2 _ (int i64 ((q:Nat):Int)) rfl (λV hb=>by have q0:IntKind.i64.wrap (((j:Nat):Int)-1)=((q:Nat):Int):=Hm.out;go_simp) hC.out ?_
        try simp only [Act.put,qA,qB,qC,qD,qE,qF]
        refine tk 3 _ (.pointer (some ⟨g,o+q*14,none⟩)) rfl (λV hb=>by have q1:((q:Nat):Int)<(nL:Int):=Hn.out;go_simp) hC.out ?_
        try simp only [Act.put,qA,qB,qC,qD,qE,qF]
        refine tk 4 _ (.pointer (some ⟨g,o+q*14+10,none⟩)) rfl (λV hb=>by go_simp) hC.out ?_
        try simp only [Act.put,qA,qB,qC,qD,qE,qF]
        refine tq 5 _ (.agg #[int i64 t10,int i64 t11]) rfl (by kernel_rfl) (λ_ _ _ h=>h) (yieldsIf_load_mid (by kernel_rfl) 41 _ rfl g (o+q*14+10) rfl [int i64 t10,int i64 t11] _ (λV hb=>hb.1) Tryd.underlying41 rfl (by kernel_rfl)) hC.out ?_
        try simp only [Act.put,qA,qB,qC,qD,qE,qF]
        refine tk 6 _ (.pointer (some ⟨XB,10,none⟩)) rfl (λV hb=>by go_simp) hC.out ?_
        try simp only [Act.put,qA,qB,qC,qD,qE,qF]
        refine tq 7 _ (.agg #[int i64 s10,int i64 s11]) rfl (by kernel_rfl) (λ_ _ _ h=>h) (yieldsIf_load_mid (by kernel_rfl) 41 _ rfl XB (10) rfl [int i64 s10,int i64 s11] _ (λV hb=>hb.2) Tryd.underlying41 rfl (by kernel_rfl)) hC.out ?_
        try simp only [Act.put,qA,qB,qC,qD,qE,qF]
        refine tr 8 _ (by kernel_rfl) rfl λK1 hK=>?_
        go_simp;refine (Eo t10 t11 s10 s11 _).mono ?_;rintro e W12 ⟨rfl,hb⟩;rw [HV.out];have T1:=qh (hG.out.below hb);clear hG;have hG:=T1;clear T1;have T1:=qh (hB.out.below hb (qn _));clear hB;have hB:=T1;clear T1;have T1:=qh (show W12.rangeAt g (o+q*14+10) [int i64 t10,int i64 t11]∧W12.rangeAt XB 10 [int i64 s10,int i64 s11] from ⟨λu v hv=>Ad hb (hC.out.1 u v hv),λu v hv=>Ad hb (hC.out.2 u v hv)⟩);clear hC;have hC:=T1;clear T1;have i1:W12.cell? ⟨g,o+q*14,none⟩=some (int i64 t0):=Ad hb HP.out;have i2:W12.cell? ⟨XB,0,none⟩=some (int i64 s0):=Ad hb H3.out;clear hb;refine hK.out _ _ hC.out (λ_=>?_);clear hK K1
        try simp only [Act.put,qA,qB,qC,qD,qE,qF]
        refine tk 9 _ (.tuple #[int i64 K,int i64 0]) rfl (λV hb=>by go_simp) hC.out ?_
        try simp only [Act.put,qA,qB,qC,qD,qE,qF]
        refine tk 10 _ (int i64 K) rfl (λV hb=>by go_simp) hC.out ?_
        try simp only [Act.put,qA,qB,qC,qD,qE,qF]
        refine tk 11 _ (int i64 0) rfl (λV hb=>by go_simp) hC.out ?_
        try simp only [Act.put,qA,qB,qC,qD,qE,qF]
        refine tk 12 _ (int i64 K) rfl (λV hb=>by go_simp) hC.out ?_
        try simp only [Act.put,qA,qB,qC,qD,qE,qF]
        refine tk 13 _ (int i64 0) rfl (λV hb=>by go_simp) hC.out ?_
        try simp only [Act.put,qA,qB,qC,qD,qE,qF]
        refine wpAnyH_done (by kernel_rfl) ?_ _;have uJ:IntKind.i64.wrap (((j:Nat):Int)-1)=((q:Nat):Int):=Hm.out;have uK:((q:Nat):Int)<(nL:Int):=Hn.out;rcases hu with rfl|⟨rfl,uL⟩
        ·go_wp2_with fail
         go_quiet (fail);go_wp2_with fail;go_roundw
         case rel=>exact ⟨j+1,_,by go_num,congrArg (Value.int .i64) (by omega),by omega,qh (hG.out.below (Ak (Below.refl _ _) _)),qh (hB.out.below (Ak (Below.refl _ _) _) (qn _))⟩
         case measure=>first|omega|(simp [intOf];omega)
        ·have uM:¬s0≤t0:=by omega
         go_wp2_with fail;go_quiet (fail);go_wp2_with fail;go_roundw
         case rel=>exact ⟨j+1,_,by go_num,congrArg (Value.int .i64) (by omega),by omega,qh (hG.out.below (Ak (Below.refl _ _) _)),qh (hB.out.below (Ak (Below.refl _ _) _) (qn _))⟩
         case measure=>first|omega|(simp [intOf];omega)
      ·obtain rfl:j=nL:=by omega
       have Hz:¬((j:Nat):Int)<(j:Int):=by omega
       go_wp2_with fail;go_roundw
       case rel =>
        have hN:VR ss m r+VS ss r (b+1)=N0+j:=by rw [VT,← Hx,← hh.out];omega
        exact ⟨b+1,kvs3,by go_num,congrArg (Value.int .i64) (by omega),by omega,qh (HG.out.weak λt ht h=>by
         rcases h with h|⟨h1,h2⟩
         ·exact Or.inl (Or.inl h)
         ·by_cases H5:t.bar<((b:Nat):Int)
          ·exact Or.inl (Or.inr ⟨h1,H5⟩)
          ·refine Or.inr ?_
           rw [List.take_of_length_le (by rw [hk.out];exact qn _)];refine (hQ.out t).2 (List.mem_filter.2 ⟨ht,?_⟩);simp only [Bool.and_eq_true,decide_eq_true_eq]
           exact ⟨h1,by omega⟩)⟩
       case measure=>simp [intOf];omega
    ·obtain rfl:b=m:=by omega
     have Hw:¬((b:Nat):Int)<(b:Int):=by omega
     go_wp2_with fail;go_roundw
     case rel=>exact ⟨r+1,kvs2,by go_num,congrArg (Value.int .i64) (by have:=VU ss b r;omega),by omega,qh (hI.out.weak λt ht h=>by
      by_cases h2:t.role<((r:Nat):Int)
      ·exact Or.inl h2
      ·exact Or.inr ⟨by omega,by have:=(h4.out t ht).2.2;omega⟩)⟩
     case measure=>simp [intOf];omega
  ·obtain rfl:r=nR:=by omega
   have Hv:¬((r:Nat):Int)<(r:Int):=by omega
   have y10:wr.cell? ⟨X3,10,none⟩=some (.slice aS nS cS):=Aa hZ.out.box 10 rfl;have hL:=hZ.out.weak (E:=λ_=>True) (λt ht _=>(h4.out t ht).1.2);have Ho:=qh hL;clear hL hZ;go_wp2_with fail;go_loopw [125] (λiv wr2=>∃i:Nat,iv=int i64 i∧i≤nS∧Hid (EoW w X3 MB #[int i64 wd,int i64 dp,int i64 ta,int i64 tb,int i64 tc,.slice aR r cR,int i64 (m:Nat),.slice aT ts.length cT,.slice aP ps.length cP,.slice aX xs.length cX,.slice aS nS cS] ss kvs (λ_=>True) wr2)) (λiv _=>nS+1-(intOf iv).toNat)
   case atStart=>exact ⟨0,rfl,Nat.zero_le _,Ho⟩
   case round =>
    clear Ho y10;obtain ⟨i,rfl,ha,hE⟩:=hrel;by_cases hi:i<nS
    ·have H6:((i:Nat):Int)<(nS:Int):=by omega
     obtain ⟨x,hx⟩:∃x,ss[i]?=some x:=⟨_,qg (by rw [h3.out];exact hi)⟩;have hw:=hE.out.ok.get x (List.mem_of_getElem? hx) trivial;have HQ:=(HW.out.below hE.out.base).signs;rw [h3.out] at HQ;obtain ⟨g,o,rfl,hA,_⟩:=HQ.block hx;have HA:Hid (wr.rangeAt g (o+i*14) (AC x)):=qh (λu v hv=>hA i x hx u v hv)
     cases x with
     | mk s0 s1 s2 s3 s4 s5 s6 s7 s8 s9 s10 s11 s12 s13 =>
     have HA:Hid (wr.rangeAt g (o+i*14) [int i64 s0,int i64 s1,int i64 s2,int i64 s3,int i64 s4,int i64 s5,int i64 s6,int i64 s7,int i64 s8,int i64 s9,int i64 s10,int i64 s11,int i64 s12,int i64 s13]):=HA;obtain ⟨A14,xA14,gA14,bA14,sA14⟩:=Af wr #[int i64 s0,int i64 s1,int i64 s2,int i64 s3,int i64 s4,int i64 s5,int i64 s6,int i64 s7,int i64 s8,int i64 s9,int i64 s10,int i64 s11,int i64 s12,int i64 s13] 43;obtain ⟨XB,HL⟩:∃X,wr.heap.size=X:=⟨_,rfl⟩;rw [HL] at gA14;have c0:A14.cell? ⟨XB,0,none⟩=some (int i64 s0):=Aa gA14 0 rfl;have HS:=hE.out.below bA14;have HT:=Bt (P:=Tryd.prog) (T:=37) B5 Tryd.underlying37 Tryd.underlying3 HS.map s0 (Tryd.zeroValue43 _) true;rw [show Ap kvs s0=some (.agg #[int i64 s0,int i64 s1,int i64 s2,int i64 s3,int i64 s4,int i64 s5,int i64 s6,int i64 s7,int i64 s8,int i64 s9,int i64 s10,int i64 s11,int i64 s12,int i64 s13]) from hw] at HT;have H7:(Instr.lookup 37 (.map (some MB)) (int i64 s0) true).run Tryd.prog A14=.ok (.tuple #[.agg #[int i64 s0,int i64 s1,int i64 s2,int i64 s3,int i64 s4,int i64 s5,int i64 s6,int i64 s7,int i64 s8,int i64 s9,int i64 s10,int i64 s11,int i64 s12,int i64 s13],.bool true]) A14:=HT;obtain ⟨A15,xA15,gA15,bA15,sA15⟩:=Af A14 #[int i64 s0,int i64 s1,int i64 s2,int i64 s3,int i64 s4,int i64 s5,int i64 s6,int i64 s7,int i64 s8,int i64 s9,int i64 s10,int i64 s11,int i64 s12,int i64 s13] 43;obtain ⟨XC,H8⟩:∃X,A14.heap.size=X:=⟨_,rfl⟩;rw [H8] at gA15;have HY:=qh (Ah bA15 gA14);have HZ:=qh gA15;have hG:=qh (HS.below bA15);clear hx hw HQ hA gA14 bA14 sA14 HS hE HT gA15 bA15 sA15;have st40:True:=trivial
     go_wp2_with (first
      | (have q:=st40;clear q;refine wpList_load_mid rfl 43 _ rfl g (o+i*14) rfl [int i64 s0,int i64 s1,int i64 s2,int i64 s3,int i64 s4,int i64 s5,int i64 s6,int i64 s7,int i64 s8,int i64 s9,int i64 s10,int i64 s11,int i64 s12,int i64 s13] _ HA.out Tryd.underlying43 rfl (by kernel_rfl) ?_;simp only [Act.put,qD,qE,qF];clear st40;have st41:True:=trivial)
      | (have q:=st41;clear q;refine Du (by kernel_rfl) 43 _ rfl XB rfl 43 #[int i64 s0,int i64 s1,int i64 s2,int i64 s3,int i64 s4,int i64 s5,int i64 s6,int i64 s7,int i64 s8,int i64 s9,int i64 s10,int i64 s11,int i64 s12,int i64 s13] (0,0) _ HY.out Tryd.underlying43 rfl (by kernel_rfl) ?_;simp only [Act.put,qD,qE,qF];clear st41;have st42:True:=trivial)
      | (have q:=st42;clear q;refine Du (by kernel_rfl) 43 _ rfl XC rfl 43 #[int i64 s0,int i64 s1,int i64 s2,int i64 s3,int i64 s4,int i64 s5,int i64 s6,int i64 s7,int i64 s8,int i64 s9,int i64 s10,int i64 s11,int i64 s12,int i64 s13] (0,0) _ HZ.out Tryd.underlying43 rfl (by kernel_rfl) ?_;simp only [Act.put,qD,qE,qF];clear st42;have st43:True:=trivial)
      | (have q:=st43;clear q;refine EY (by kernel_rfl) (.bool false) (by rw [Ma _ _ _ _ _ rfl (⟨s0,s1,s2,s3,s4,s5,s6,s7,s8,s9,s10,s11,s12,s13⟩:Sgn) (⟨s0,s1,s2,s3,s4,s5,s6,s7,s8,s9,s10,s11,s12,s13⟩:Sgn) rfl rfl _];simp) ?_;simp only [Act.put,qD,qE,qF];clear st43;have st44:True:=trivial))
     go_roundw
     case rel=>exact ⟨i+1,by go_num,by omega,hG⟩
     case measure=>first|omega|(simp [intOf];omega)
    ·obtain rfl:i=nS:=by omega
     have H6:¬((i:Nat):Int)<(i:Int):=by omega
     have y10:wr.cell? ⟨X3,10,none⟩=some (.slice aS i cS):=Aa hE.out.box 10 rfl;have hD:=HD.out;have uN:(((VR ss m r:Nat):Int)==((i:Nat):Int))=true:=by rw [hD];simp
     go_wp2_with fail;go_ret;refine ⟨?_,by have hq:=hE.out.base;first|exact hq|(rw [Hb] at hq;exact hq)⟩
     first|rfl|(rw [hD];simp)
theorem Wi(wd dp ta tb tc bars:Int)(aR aT aP aX aS:Option Addr)(cR cT cP cX cS:Nat)(rs:List Rol)(ts:List Tmp)(ps:List Pau)(xs:List Con)(ss:List Sgn)(w:World)(hW:WkRows aR aT aP aX aS cR cT cP cX cS rs ts ps xs ss w)(hE:∀V,Below w.heap.size w V→Env V∧EnvK V) :
  Calls Tryd.prog 3 #[.agg #[int i64 wd,int i64 dp,int i64 ta,int i64 tb,int i64 tc,.slice aR rs.length cR,int i64 bars,.slice aT ts.length cT,.slice aP ps.length cP,.slice aX xs.length cX,.slice aS ss.length cS]] w λe w'=>e=.returned (.bool true)∧Below w.heap.size w w':=by
 cases hf:Tr ⟨wd,dp,ta,tb,tc,rs,⟨bars,ts,ps,xs⟩,ss⟩ with
 | false=>exact Wk wd dp ta tb tc bars aR aT aP aX aS cR cT cP cX cS rs ts ps xs ss w hW hE hf
 | true =>
  by_cases h8:8<rs.length
  ·exact Wf wd dp ta tb tc bars aR aT aP aX aS cR cT cP cX cS rs ts ps xs ss w hW hE hf h8
  ·by_cases h6:64<bars
   ·exact Wd wd dp ta tb tc bars aR aT aP aX aS cR cT cP cX cS rs ts ps xs ss w hW hE hf h8 h6
   ·by_cases hc:Dj ⟨wd,dp,ta,tb,tc,rs,⟨bars,ts,ps,xs⟩,ss⟩=0
    ·exact We wd dp ta tb tc bars aR aT aP aX aS cR cT cP cX cS rs ts ps xs ss w hW hE hf h8 h6 hc
    ·exact Wj wd dp ta tb tc bars aR aT aP aX aS cR cT cP cX cS rs ts ps xs ss w hW hE hf h8 (eq_false h6) _ rfl hc
end
end Go.Proofs.YtbkemlgfdklpfaaDoor
