/- Contracts and plain laws on the way to the statement: part 39. -/
import Derived.Test.YtbkemlgfdklpfaaGreatDoorV33
import Derived.Test.YtbkemlgfdklpfaaGreatDoorV16
import Derived.Shelf.Bits.Mul64
import Derived.Ground.Names2Prog
import Derived.Laws.CopyOwn
import Derived.Laws.MakeOwn
import Derived.Deep.RegionLaw
import Derived.Lib.SlBuf
import Derived.Test.YtbkemlgfdklpfaaGreatDoorV4
set_option linter.unusedVariables false
set_option linter.unusedSimpArgs false
set_option maxRecDepth 100000
set_option maxHeartbeats 16000000
namespace Go.Proofs.YtbkemlgfdklpfaaGreatDoor
open Go.Value (int)
open Go.IntKind (i64)
end Go.Proofs.YtbkemlgfdklpfaaGreatDoor
section
open Go.Value (int)
open Go.IntKind (i64)
namespace Go.Proofs
open Go.Shelf
def Tryz.lays212_ren:Go.Shelf.Ren:=⟨fun|212=>97|263=>133|264=>134|n=>n,fun|46=>164|51=>201|146=>202|53=>204|148=>205|n=>n,fun|n=>n⟩
theorem Tryz.lays212:Go.Proofs.Lays.n212 Tryz.prog Tryz.lays212_ren:={
 mixed:=by kernel_rfl
 f212:=Tryz.func97.trans (congrArg some (by kernel_rfl))
 f263:=Tryz.func133.trans (congrArg some (by kernel_rfl))
 f264:=Tryz.func134.trans (congrArg some (by kernel_rfl))
 t46:=Tryz.underlying164
 a46:=Tryz.isAgg164
 z46:=Tryz.sizeOf164
 v46:=Tryz.zeroValue164
 t51:=Tryz.underlying201
 a51:=Tryz.isAgg201
 z51:=Tryz.sizeOf201
 v51:=Tryz.zeroValue201
 t53:=Tryz.underlying204
 a53:=Tryz.isAgg204
 z53:=Tryz.sizeOf204
 v53:=Tryz.zeroValue204
 t146:=Tryz.underlying202
 a146:=Tryz.isAgg202
 z146:=Tryz.sizeOf202
 v146:=Tryz.zeroValue202
 t148:=Tryz.underlying205
 a148:=Tryz.isAgg205
 z148:=Tryz.sizeOf205
 v148:=Tryz.zeroValue205 }
theorem Tryz.bits_Mul(x y:Nat)(hx:x<18446744073709551616)(hy:y<18446744073709551616)(w:World) :
  Calls Tryz.prog 97 #[.int .u64 x,.int .u64 y] w λe w'=>e=.returned (.tuple #[.int .u64 ((x*y / 18446744073709551616:Nat):Int),.int .u64 ((x*y % 18446744073709551616:Nat):Int)])∧w'=w:=Any.bits_Mul Tryz.lays212 x y hx hy w
namespace YtbkemlgfdklpfaaGreatDoor
open Go Go.RowKit Go.Deep
theorem Px(v:Value)(n:Nat):madeCells #[v] n=(List.replicate n v).toArray:=by
 unfold madeCells;apply Array.ext
 ·simp
 ·intro j h1 h2
  simp [Nat.mod_one]
theorem NF(m:Nat)(hm:m≤1000)(w:World):(Instr.makeSlice 116 (int i64 m) (int i64 m)).run Tryz.prog w=.ok (.slice (some ⟨w.heap.size,0,none⟩) m m) (w.alloc (.cells (Array.replicate m (int i64 0)) 3)):=by
 obtain ⟨i,h1,h2,h3,h4⟩:=Pm;have h:=run_make (P:=Tryz.prog) w 116 3 i (int i64 0) Tryz.underlying116 h1 h2 .i64 .i64 m m (by omega) (Int.le_refl _) (by rw [h4];omega) (by omega);rw [h,h3];simp [Value.cells,Px]
def KC(l:List Int):List Value:=l.map (Value.int .i64)
def BI(w:World)(g:Nat)(l:List Int):Prop:=w.heap[g]?=some (.cells (KC l).toArray 3 (0,0))
theorem BI.lt{w:World}{g:Nat}{l:List Int}(h:BI w g l):g<w.heap.size:=(qs.1 h).1
def EA(x:Int)(k m:Nat):List Value:=List.replicate k (int i64 x)++List.replicate (m-k) (int i64 0)
theorem Q7{x:Int}{k m:Nat}(h:k≤m):(EA x k m).length=m:=by unfold EA;simp;omega
theorem PZ(x:Int)(m:Nat):EA x m m=KC (List.replicate m x):=by unfold EA KC;simp
theorem RI{x:Int}{k m j:Nat}(h:j<k):(EA x k m)[j]?=some (int i64 x):=by
 unfold EA;rw [List.getElem?_append_left (by simpa using h),List.getElem?_replicate,if_pos h]
theorem KU{x:Int}{k c m:Nat}(h:k+c≤m):splice (EA x k m) k (List.replicate c (int i64 x))=EA x (k+c) m:=by
 unfold splice EA;rw [List.take_left' (by simp),List.length_replicate,List.drop_append,← List.append_assoc]
 congr 1
 ·simp [List.replicate_append_replicate]
 ·simp only [List.length_replicate,List.drop_replicate]
  rw [show k-(k+c)=0 by omega,List.replicate_zero,List.nil_append]
  congr 1
  omega
theorem LF(w:World)(x:Int)(m b:Nat)(hm:m≤1000)(hb:b<w.heap.size)(hc:w.cell? ⟨b,0,none⟩=some (int i64 x)):
  ∃k,k=min 1 m∧∃w',(Builtin.copy_ #[116,116] 3 #[.slice (some ⟨w.heap.size,0,none⟩) m m,.slice (some ⟨b,0,none⟩) 1 1]).run Tryz.prog (w.alloc (.cells (Array.replicate m (int i64 0)) 3))=.ok (int i64 (k:Nat)) w'∧w'.heap[w.heap.size]?=some (.cells (EA x k m).toArray 3 (0,0))∧Below w.heap.size w w':=by
 refine ⟨_,rfl,?_⟩;rw [← List.toArray_replicate];have hA:(Tryz.prog.info? 3).map (·.size)=some 1:=by kernel_rfl
 by_cases h0:m=0
 ·subst h0
  exact ⟨_,run_copy_none _ 116 116 3 3 _ _ 0 0 1 1 Tryz.underlying116 hA (by simp),by rw [heap_alloc_new];rfl,(Below.refl _ w).alloc (qn _) _⟩
 ·have e:min 1 m=1:=by omega
  rw [e];have h:=run_copy_row (P:=Tryz.prog) (w.alloc (.cells (List.replicate m (int i64 0)).toArray 3)) 116 116 3 3 w.heap.size 0 m m ⟨b,0,none⟩ 1 1 (List.replicate m (int i64 0)).toArray 3 [int i64 x] Tryz.underlying116 hA (heap_alloc_new w _) (by show 1=min 1 m;omega)
   (λj v hv=>by
    rcases j with _|j
    ·obtain rfl:_=v:=by simpa using hv
     exact (((Below.refl _ w).alloc (qn _) _).cell (p:=⟨b,0,none⟩) hb).trans hc
    ·simp at hv) (by simp;omega) (λv hv=>by rw [List.mem_singleton.1 hv];rfl)
  refine ⟨_,h,?_,below_setRow ((Below.refl _ w).alloc (qn _) _) (qn _) _⟩;rw [setRow_heap _ _ _ _ _ _ (heap_alloc_new w _)]
  have el:(List.replicate m (Value.int .i64 0)).toArray.toList.take 0++[Value.int .i64 x]++(List.replicate m (Value.int .i64 0)).toArray.toList.drop (0+[Value.int .i64 x].length)=EA x 1 m:=by
   unfold EA;simp [List.drop_replicate]
  rw [el]
theorem Nn(w:World)(x:Int)(m i:Nat)(hm:m≤1000)(hi:i<m)(g:Nat)(hg:w.heap[g]?=some (.cells (EA x i m).toArray 3 (0,0))) :
  ∃w',(Builtin.copy_ #[116,116] 3 #[.slice (some ⟨g,i,none⟩) (m-i) (m-i),.slice (some ⟨g,0,none⟩) i m]).run Tryz.prog w=.ok (int i64 ((min i (m-i):Nat):Int)) w'∧w'.heap[g]?=some (.cells (EA x (i+min i (m-i)) m).toArray 3 (0,0))∧Below g w w':=by
 have hA:(Tryz.prog.info? 3).map (·.size)=some 1:=by kernel_rfl
 have h:=run_copy_row (P:=Tryz.prog) w 116 116 3 3 g i (m-i) (m-i) ⟨g,0,none⟩ i m (EA x i m).toArray 3 (List.replicate (min i (m-i)) (int i64 x)) Tryz.underlying116 hA hg (by rw [List.length_replicate])
  (λj v hv=>by
   rw [List.getElem?_replicate] at hv
   split at hv
   ·obtain rfl:_=v:=Option.some.inj hv
    rw [Bc,Nat.zero_add];exact Aa hg j (by rw [List.getElem?_toArray];exact RI (by omega))
   ·cases hv) (by rw [List.length_replicate,List.size_toArray,Q7 (by omega)];omega) (λv hv=>by rw [(List.mem_replicate.1 hv).2];rfl)
 rw [List.length_replicate] at h;refine ⟨_,h,?_,below_setRow (Below.refl _ w) (qn _) _⟩;have hs:=KU (x:=x) (k:=i) (c:=min i (m-i)) (m:=m) (by omega);unfold splice at hs;rw [List.length_replicate,← List.append_assoc] at hs;rw [setRow_heap _ _ _ _ _ _ hg,← hs]
theorem IE{P:Program}{ops:Array Oper}{o:Oper}{a:Act}{w:World}{K:Act→World→Prop}{Q:Exit→Act→World→Prop}{E:Prop}(hA:o.guard=none)(d s:Operand)(t t':TypeId)
  (ho:o.op=.call { callee:=.builtin .copy,args:=#[d,s],argTypes:=#[t,t'] }) (v u:Value) (hd:a.eval d=v) (hs:a.eval s=u) {v':Value} {w':World}
  (hr:(Builtin.copy_ #[t,t'] o.type #[v,u]).run P w=.ok v' w') (h:K (a.put o.dst v') w'):if Region.wanted o (yielded ops a.tmps)=true then Oper.wp P o a w K Q else E:=by
 rw [if_pos (by simp [Region.wanted,hA])];exact Lib.wp_copy_run w d s t t' ho v u hd hs hr h
theorem EV(x:Int)(m:Nat)(hm:m≤1000)(b:Nat)(w:World)(hb:b<w.heap.size)(hc:w.cell? ⟨b,0,none⟩=some (int i64 x)) :
  Calls Tryz.prog 62 #[.slice (some ⟨b,0,none⟩) 1 1,int i64 m] w λe w'=>∃g,e=.returned (.slice (some ⟨g,0,none⟩) m m)∧w.heap.size≤g∧BI w' g (List.replicate m x)∧Below w.heap.size w w':=by
 have hC:=λ(W:World)=>Tryz.bits_Mul 1 m (by omega) (by omega) W
 have e1:((1*m / 18446744073709551616:Nat):Int)=0:=by omega
 have e2:((1*m % 18446744073709551616:Nat):Int)=m:=by omega
 rw [e1,e2] at hC;have c1:IntKind.u64.wrap (m:Int)=(m:Int):=by rw [IntKind.wrap_u64];omega
 have c2:IntKind.i64.wrap (m:Int)=(m:Int):=IntWalk.i64_in _ (by omega);have n1:¬(m:Int)<0:=by omega
 have n2:¬(9223372036854775807:Int)<(m:Int):=by omega
 have hR:=NF m hm w;have hH:=LF w x m b hm hb hc;have hD:=qh hC;have hI:=qh hH;have HM:=qh hm;clear e1 e2 hC hH hc hb;go_enter Tryz.func62,Tryz.ntmps62;go_wp2_with fail;refine (hD.out w).mono ?_;rintro e w1 ⟨rfl,h1⟩;rw [h1];clear h1 w1;obtain ⟨k,hk,w2,hA,hJ,hK⟩:=hI.out;have G2:=qh hJ;have B2:=qh hK;have HK:=qh hk;clear hJ hK hI hD hk
 go_wp2_with (at_builtin;refine Lib.wpList_copy_run _ rfl _ _ 116 116 rfl _ _ rfl rfl hA ?_;simp only [Act.put,qD,qE,qF]);clear hA hR;go_loopw [8] (λiv wr=>∃k:Nat,k≤m∧(k=0→m=0)∧iv=int i64 k∧Hid (wr.heap[w.heap.size]?=some (.cells (EA x k m).toArray 3 (0,0)))∧Hid (Below w.heap.size w wr)) (λiv _=>m-(intOf iv).toNat)
 case atStart=>exact ⟨k,by have:=HK.out;omega,by have:=HK.out;omega,rfl,G2,B2⟩
 case round =>
  clear G2 B2;obtain ⟨i,hW,hF,rfl,hG,hB⟩:=hrel;by_cases hi:i<m
  ·have hS:(i:Int)<(m:Int):=by omega
   have hE:=qh hF;clear hF;go_wp2_with fail;have W1:IntKind.i64.wrap ((i:Int)+((min i (m-i):Nat):Int))=((i+min i (m-i):Nat):Int):=IntWalk.i64_in _ (by have:=HM.out;omega);have hL:(Tryz.prog.info? 3).map (·.size)=some 1:=by kernel_rfl
   have hX:=qh hL;have hY:¬m=i:=by omega
   clear hL;obtain ⟨w4,hA,hM,hN⟩:=Nn wr.drew x m i hm hi w.heap.size hG.out;have B4:=qh (hB.out.drew.trans (hN.mono (by omega)));have G4:=qh hM;clear hN hM hG hB;have hO:i+min i (m-i)≤m:=by omega
   have hP:i+min i (m-i)=0→m=0:=by have:=hE.out;omega
   have hQ:m-(i+min i (m-i))<m-i:=by have:=hE.out;omega
   have hT:=qh hO;have hU:=qh hP;have hV:=qh hQ;clear hO hP hQ;generalize hc:min i (m-i)=c at *;clear hc;go_region_law (refine IE rfl (.tmp 41) (.tmp 44) 116 116 rfl (.slice (some ⟨w.heap.size,i,none⟩) (m-i) (m-i)) (.slice (some ⟨w.heap.size,0,none⟩) i m) (by simp [Act.eval,Act.put]) (by simp [Act.eval,Act.put]) hA ?_);simp only [Act.put,qz];go_wp2_with fail;go_roundw
   case rel=>exact ⟨i+c,hT.out,hU.out,by go_num,G4,B4⟩
   case measure=>have:=hV.out;simp [intOf];omega
  ·obtain rfl:i=m:=by omega
   clear hF;have hS:¬(i:Int)<(i:Int):=by omega
   go_wp2_with fail;go_ret;have hg:=hG.out;rw [PZ] at hg;exact ⟨_,rfl,qn _,hg,hB.out⟩
end YtbkemlgfdklpfaaGreatDoor
end Go.Proofs
end
namespace Go.Proofs.YtbkemlgfdklpfaaGreatDoor
open Go.Value (int)
open Go.IntKind (i64)
section
open Go Go.RowKit Go.Deep
theorem Cv{P:Program}{ops:Array Oper}{S:World→Prop}{op:Oper}{a:Act}(hw:Region.wanted op (yielded ops a.tmps)=true)(ty:TypeId)(x:Operand)(ho:op.op=.load ty x)
  (g:Nat) (hx:a.eval x=.pointer (some ⟨g,0,none⟩)) (t:TypeId) (cs:Array Value) (fr:Nat×Nat) (d:TypeDesc) (hS:∀w,S w→w.heap[g]?=some (.cells cs t fr))
  (hu:P.underlying ty=some d) (hd:(match d with|.struct _|.array _ _=>true|_=>false)=true) (hi:(P.info? ty).map (·.size)=some cs.size):YieldsIf P ops S op (.agg cs) a :=
 .inl ⟨hw,λw hA=>by
  unfold execOp
  simp only [ho,hx,Instr.loadAt,Instr.sureAddr,Sem.run_bind,Sem.run_pure,Result.andThen_ok,run_loadVar_row w g t ty cs fr d (hS w hA) hu hd hi]⟩
theorem tkS{P:Program}{md:Region.Mode}{ops:Array Oper}{Q:Exit→Act→World→Prop}{S:World→Prop}{i:Nat}{oi:Oper}{v:Value}{fuel:Nat}{listed:Array Bool}{a:Act}{w:World}(hi:ops[i]?=some oi)
  (hs:(Region.noSelect ops&&(Region.free md ops listed i&&((Region.ready md ops listed).contains i&&Region.wanted oi (yielded ops a.tmps))))=true)
  (hQ:∀c a w,Q (.panic c) (a.put oi.dst v) w→Q (.panic c) a w) (hy:∀V,S V→(execOp a.eval oi).run P V=.ok (.value v) V) (hS:S w)
  (h:wpAnyH P md ops Q S fuel (listed.setIfInBounds i true) (a.put oi.dst v) w):wpAnyH P md ops Q S (fuel+1) listed a w:=by
 simp only [Bool.and_eq_true] at hs;exact wpAnyH_take hi hs.1 hs.2.1 hs.2.2.1 hQ (Or.inl ⟨hs.2.2.2,hy⟩) hS h
structure TabW(w0:World)(n G:Nat)(len:Int→Int)(W:World):Prop where
 sc:Below w0.heap.size w0 W
 hg:w0.heap.size≤G
 tab:∃l,BI W G l∧l.length=n∧∀(i:Nat) (v:Int),l[i]?=some v→v=-1∨v=len i
theorem TabW.lt{w0:World}{n G:Nat}{len:Int→Int}{W:World}(h:TabW w0 n G len W):G<W.heap.size:=by
 obtain ⟨l,h1,_⟩:=h.tab;exact h1.lt
theorem TabW.below{w0:World}{n G:Nat}{len:Int→Int}{W V:World}(h:TabW w0 n G len W)(hb:Below W.heap.size W V):TabW w0 n G len V:=by
 obtain ⟨l,h1,h2⟩:=h.tab;exact ⟨Ag h.sc hb,h.hg,l,Ah hb h1,h2⟩
theorem TabW.cell{w0:World}{n G:Nat}{len:Int→Int}{W:World}(h:TabW w0 n G len W){j:Nat}(hj:j<n):∃v:Int,W.cell? ⟨G,j,none⟩=some (int i64 v)∧(v=-1∨v=len j)∧W.frozen? ⟨G,j,none⟩=false:=by
 obtain ⟨l,h1,h2,h3⟩:=h.tab;obtain ⟨v,hv⟩:∃v,l[j]?=some v:=⟨_,qg (by omega)⟩;refine ⟨v,Aa h1 j ?_,h3 j v hv,by simp [World.frozen?,show W.heap[G]?=_ from h1]⟩;unfold KC;rw [List.getElem?_toArray,List.getElem?_map,hv];rfl
theorem TabW.set{w0:World}{n G:Nat}{len:Int→Int}{W:World}(h:TabW w0 n G len W)(j:Nat):TabW w0 n G len (W.setCell ⟨G,j,none⟩ (int i64 (len j))):=by
 obtain ⟨l,h1,h2,h3⟩:=h.tab;refine ⟨h.sc.setCell (p:=⟨G,j,none⟩) h.hg _,h.hg,l.set j (len j),?_,by simpa using h2,λi v hv=>?_⟩
 ·unfold BI
  rw [heap_setCell_same W G j _ _ _ h1];simp [KC,List.map_set]
 ·rw [List.getElem?_set] at hv
  split at hv
  ·rename_i e
   subst e
   split at hv
   ·cases hv;exact Or.inr rfl
   ·cases hv
  ·exact h3 i v hv
structure ItW(f:Nm→Int)(G:Nat)(W:World)(T:Lt)(b o:Nat):Prop where
 at_:T.At W b o
 num:NumAt f W (T.refsL b o)
 ne:T.len=0∨b≠G
 blocks:G∉T.blocks
theorem ItW.kept{f:Nm→Int}{G:Nat}{W W':World}{T:Lt}{b o:Nat}(h:ItW f G W T b o)(hk:∀c,c≠G→∀q v,W.cell? ⟨c,q,none⟩=some v→W'.cell? ⟨c,q,none⟩=some v):ItW f G W' T b o:=by
 refine ⟨?_,λx hx=>?_,h.ne,h.blocks⟩
 ·rcases h.ne with e|e
  ·rw [Lt.len_zero e];trivial
  ·exact h.at_.kept (λq v _=>hk b e q v) (λc hc q v=>hk c (λe=>h.blocks (e▸hc)) q v)
 ·obtain ⟨n,h1,h2⟩:=h.num x hx
  refine ⟨n,hk x.b ?_ _ _ h1,h2⟩;rcases Lt.refsL_mem hx with ⟨e,_⟩|e
  ·rcases h.ne with e2|e2
   ·rw [Lt.len_zero e2] at hx;cases hx
   ·rw [e];exact e2
  ·exact λe2=>h.blocks (e2▸e)
theorem ItW.but{f:Nm→Int}{G:Nat}{W W':World}{T:Lt}{b o:Nat}(h:ItW f G W T b o)(hb:ButOne G W W'):ItW f G W' T b o:=h.kept λc hc q v hv=>hb.cell hv hc
theorem ItW.below{f:Nm→Int}{G:Nat}{W W':World}{T:Lt}{b o:Nat}(h:ItW f G W T b o)(hb:Below W.heap.size W W'):ItW f G W' T b o:=h.kept λc hc q v hv=>Ad hb hv
theorem ItW.parts{f:Nm→Int}{G:Nat}{W:World}{k n:Int}{un:Nm}{ia:Option Addr}{ic:Nat}{its:Lt}{ma:Option Addr}{mc:Nat}{ms:List Mov}{r:Lt}{b o:Nat}(h:ItW f G W (.cons k n un ia ic its ma mc ms r) b o) :
  (∃u,W.cell? ⟨b,o+3,none⟩=some (int i64 u)∧(k=4→u=f un))∧ItW f G W its (blk ia) (off ia)∧ItW f G W r b (o+6)∧b≠G:=by
 obtain ⟨h1,h2,h3,h4⟩:=h.num.mov;have hb:b≠G:=h.ne.resolve_left (by simp [Lt.len]);have hn:=h.blocks;simp only [Lt.blocks,List.mem_append,not_or] at hn;refine ⟨h1,⟨h.at_.2.2.1.2.2,h3,?_,hn.2.2.1⟩,⟨h.at_.2.2.2,h4,Or.inr hb,hn.2.2.2⟩,hb⟩;by_cases e:its.len=0
 ·exact Or.inl e
 ·right
  have:=hn.2.1;rw [if_neg e,List.mem_singleton] at this;exact λe2=>this e2.symm
theorem ItW.old{f:Nm→Int}{G:Nat}{w0 W:World}{T:Lt}{b o:Nat}(h:T.At w0 b o)(hu:NumAt f w0 (T.refsL b o))(hb:Below w0.heap.size w0 W)(hg:w0.heap.size≤G):ItW f G W T b o:=by
 refine ⟨h.below hb,hu.below hb,?_,λhc=>?_⟩
 ·by_cases e:T.len=0
  ·exact Or.inl e
  ·right;have:=h.lt e;omega
 ·have:=h.blocks_lt G hc;omega
def D5(s:Ls)(G:Nat):Array Value:=s.cells.push (.slice (some ⟨G,0,none⟩) s.phrases.length s.phrases.length)
theorem Jh(s:Ls)(G:Nat):(D5 s G).size=13:=rfl
def Lq(w0:World)(n G:Nat)(len:Int→Int)(v:Int)(W:World)(e:Ending)(W':World):Prop:=e=.returned (int i64 v)∧TabW w0 n G len W'∧ButOne G W W'
def QA(s:Ls)(w0:World)(G:Nat)(tc:Array Value)(n:Nat)(len:Int→Int)(us:List Int):Prop:=∀u∈us,∃(j:Nat) (p:Ph),u=j∧s.phrases[j]?=some p∧∀V,TabW w0 n G len V→Calls Tryz.prog 65 #[.agg tc,.slice p.ia p.its.len p.ic] V (Lq w0 n G len (len j) V)
theorem ButOne.heap{G:Nat}{W W':World}(h:ButOne G W W'){b:Nat}{o:Obj}(hb:W.heap[b]?=some o)(hr:b≠G):W'.heap[b]?=some o:=(h.block b (qs.1 hb).1 hr).trans hb
theorem MO(s:Ls)(f:Nm→Int)(w0:World)(G:Nat)(len:Int→Int)(hA:s.At w0)(T:Lt)
  (hI:∀T':Lt,T'.size<T.size→∀(ia:Option Addr) (ic:Nat) (W:World),T'.strip.exB=true→(∀u∈T'.strip.uses f,0≤len u∧len u≤4097)→QA s w0 G (D5 s G) s.phrases.length len (T'.strip.uses f)→(T'.len=0∨ia=some ⟨blk ia,off ia,none⟩)→T'.len≤maxLen→ItW f G W T' (blk ia) (off ia)→TabW w0 s.phrases.length G len W→Calls Tryz.prog 65 #[.agg (D5 s G),.slice ia T'.len ic] W (Lq w0 s.phrases.length G len (T'.strip.sumF f len 0) W))
  (ia:Option Addr) (ic:Nat) (W:World) (hx:T.strip.exB=true) (hu:∀u∈T.strip.uses f,0≤len u∧len u≤4097) (hP:QA s w0 G (D5 s G) s.phrases.length len (T.strip.uses f)) (hf:T.len=0∨ia=some ⟨blk ia,off ia,none⟩) (hl:T.len≤maxLen) (hT:ItW f G W T (blk ia) (off ia)) (hL:TabW w0 s.phrases.length G len W):Calls Tryz.prog 65 #[.agg (D5 s G),.slice ia T.len ic] W (Lq w0 s.phrases.length G len (T.strip.sumF f len 0) W):=by
 have hh:(D5 s G)[10]?=some (.slice s.fa s.phrases.length s.fc):=rfl;have hj:(D5 s G)[12]?=some (.slice (some ⟨G,0,none⟩) s.phrases.length s.phrases.length):=rfl;have Hq:=hA.plen;have Hr:=qh (λ(j:Nat) (p:Ph) (hp:s.phrases[j]?=some p) (V:World) (hV:TabW w0 s.phrases.length G len V)=>Cs (Bd hV.sc hA.phrases) hp);have Hs:=qh (show ∀(j:Nat) (p:Ph),s.phrases[j]?=some p→blk s.fa<w0.heap.size from λj p hp=>CN (Cs hA.phrases hp).1);have Ht:=qh (show ∀(j:Nat) (p:Ph),s.phrases[j]?=some p→s.fa=some ⟨blk s.fa,off s.fa,none⟩ from λj p hp=>hA.pform.resolve_left (λe=>by rw [e] at hp;cases hp));have HI:=qh hI;have HT:=qh hT;have HF:=qh hf;have HL:=qh hL;have HX:=qh hx;have h7:=qh hu;have HP:=qh hP;have HZ:=qh (Jh s G);clear hI hT hf hL hx hu hP hA;generalize D5 s G=tc at *;have hk:=qh hh;have hO:=qh hj;clear hh hj;generalize hm:T.len=q at *;have HM:=qh hm;clear hm;have Hu:=qh (show ∀(j:Nat) (p:Ph),s.phrases[j]?=some p→j<s.phrases.length from λj p hp=>(ql.1 hp).1);generalize s.phrases.length=n at *;generalize s.fc=fc at *;unfold maxLen at hl Hq;obtain ⟨W1,Hv,gW1,bW1,sW1⟩:=Af W tc 125;obtain ⟨T2,hs⟩:∃T2,W.heap.size=T2:=⟨_,rfl⟩;have h8:=qh (show W1.heap[T2]?=some (.cells tc 125 (0,0)) by rw [← hs];exact gW1);have Hw:=qh bW1;have ht:=qh (show T2≠G by have:=HL.out.lt;omega);have Hx:=qh (HL.out.below bW1);have HQ:=qh (HT.out.below bW1);clear gW1 bW1 sW1;go_enter Tryz.func65,Tryz.ntmps65;go_wp2_with fail
 try simp only [hs]
 have uC:=qh hs;clear hs Hv;go_loopw [4,10] (λav iv wr=>∃(j:Nat) (R:Lt) (a:Int),iv=int i64 j∧av=int i64 a∧j+R.len=q∧0≤a∧a≤4097∧Hid (R.size≤T.size)∧Hid (T.strip.sumF f len 0=R.strip.sumF f len a)∧Hid (R.strip.exB=true)∧Hid (∀u∈R.strip.uses f,u∈T.strip.uses f)∧Hid (ItW f G wr R (blk ia) (off ia+j*6))∧Hid (TabW w0 n G len wr)∧Hid (ButOne G W wr)∧Hid (wr.heap[T2]?=some (.cells tc 125 (0,0)))) (λ_ iv _=>q+1-(intOf iv).toNat)
 case atStart=>exact ⟨0,T,0,rfl,rfl,by rw [HM.out];omega,by omega,by omega,qh (qn _),qh rfl,HX,qh (λ_ h=>h),by simpa [Hid] using HQ.out,Hx,qh (ButOne.of_below Hw.out),h8⟩
 case round =>
  obtain ⟨j,R,a,rfl,rfl,h9,uD,uE,HA,hQ,HS,hw,hR,hy,hB,hG⟩:=hrel
  cases R with
  | nil =>
   simp only [Lt.len,Nat.add_zero] at h9;subst h9;go_wp2_with fail;go_ret;exact ⟨by rw [hQ.out];rfl,hy.out,hB.out⟩
  | cons kk nn un ja jc its ma mc ms r =>
   simp only [Lt.len] at h9;have hi:(j:Int)<(q:Int):=by omega
   have e:=HF.out.resolve_left (by omega);obtain ⟨⟨u,g3,hu⟩,hn,HU,Hy⟩:=hR.out.parts;obtain ⟨⟨g0,g1,g2,g4,g5⟩,_,⟨i1,i2,_⟩,_⟩:=hR.out.at_;obtain ⟨HV,HB,HW⟩:=Its.exB_parts HS.out;have HY:its.size<T.size:=by have:=HA.out;simp only [Lt.size] at this;omega
   have ho:r.size≤T.size:=by have:=HA.out;simp only [Lt.size] at this;omega
   obtain ⟨W2,uF,gW2,bW2,sW2⟩:=Af wr #[int i64 kk,int i64 nn,sv un,int i64 u,.slice ja its.len jc,.slice ma ms.length mc] 121;have Ha:=hy.out.below bW2;have hz:∀u∈its.strip.uses f,u∈T.strip.uses f:=λv hv=>hw.out v (by simp [Lt.strip,Its.uses,hv])
   have Hb:∀u∈r.strip.uses f,u∈T.strip.uses f:=λv hv=>hw.out v (by simp [Lt.strip,Its.uses,hv])
   have Hc:=Its.sumF_bound f len its.strip 0 HB (λu h=>h7.out u (hz u h)) (by omega) (by omega);have C:=λ(V:World) (hc:TabW w0 n G len V) (hv:ButOne G W2 V)=>HI.out its HY ja jc V HB (λu h=>h7.out u (hz u h)) (λu h=>HP.out u (hz u h)) i1 i2 ((hn.below bW2).but hv) hc
   obtain ⟨si,HD⟩:∃si,its.strip.sumF f len 0=si:=⟨_,rfl⟩;rw [HD] at C Hc
   have Hd:T.strip.sumF f len 0=r.strip.sumF f len (min (a+(if kk=1 then 1 else if kk=2 then nn*si else if kk=3 then si else if kk=4 then len (f un) else 0)) 4097):=by
    rw [hQ.out];simp only [Lt.strip,Its.sumF,HD]
   have hq:=qh Hd;have HC:=qh C
   have HR:=qh (show ItW f G wr r (blk ia) (off ia+(j+1)*6) by
    rw [show off ia+(j+1)*6=off ia+j*6+6 by omega]
    exact HU)
   obtain ⟨T6,HE⟩:∃T6,wr.heap.size=T6:=⟨_,rfl⟩;rw [HE] at gW2;have Hz:T2<T6:=by have:=(qs.1 hG.out).1;omega
   have He:T6≠G:=by have:=hy.out.lt;omega
   have h0:W2.heap[T2]?=some (.cells tc 125 (0,0)):=Ah bW2 hG.out;have h8:=qh gW2;have Hf:=qh (ButOne.of_below (R:=G) bW2);have hH:=qh Ha;have hW:=qh ho;have hX:=qh HW;have hY:=qh Hb;have h5:=qh h0;have hS:=qh He;have H0:Hid (kk=4→u=f un∧u∈T.strip.uses f):=qh (λh4=>⟨hu h4,by rw [hu h4];exact hw.out _ (by simp [Lt.strip,Its.uses,h4])⟩);have H1:Hid (kk=2→1≤nn∧nn≤64):=qh (λh2=>by subst h2;exact Fm HV);have y0:=Aa gW2 0 rfl;have y1:=Aa gW2 1 rfl;have y3:=Aa gW2 3 rfl;have y4:=Aa gW2 4 rfl;have z10:=Aa h0 10 hk.out;have z12:=Aa h0 12 hO.out;obtain ⟨Hg,H2⟩:=Hc;have Hh:=qh (And.intro hB.out hG.out)
   -- what holds behind a call,for the next round
   have hZ:=qh (show ∀V,TabW w0 n G len V→ButOne G W2 V→ItW f G V r (blk ia) (off ia+(j+1)*6)∧TabW w0 n G len V∧ButOne G W V∧V.heap[T2]?=some (.cells tc 125 (0,0)) from λV h1 h2=>⟨HR.out.but (Hf.out.trans h2),h1,Hh.out.1.trans (Hf.out.trans h2),h2.heap h5.out ht.out⟩);have Hi:=qh gW2;clear C gW2 bW2 sW2 i1 i2 HY hR hw HA ho Ha HW HB HV HS hQ Hd Hb hz HD hu hy hn HU Hy Hz He h0 hB hG HR Hh HQ h8;generalize H3:blk ia=bb at *;generalize H4:off ia=oo at *;subst e;clear H3 H4 HF;by_cases h1:kk=1
   ·subst h1
    have hE:Hid (T.strip.sumF f len 0=r.strip.sumF f len (min (a+1) 4097)):=qh (by rw [hq.out,if_pos rfl]);have hD:=qh (hZ.out W2 hH.out (ButOne.refl _ _));go_wp2_with fail;go_roundw
    case rel=>exact ⟨j+1,r,_,by go_num,rfl,by omega,by omega,by omega,hW,hE,hX,hY,qh hD.out.1,qh hD.out.2.1,qh hD.out.2.2.1,qh hD.out.2.2.2⟩
    case measure=>simp [intOf];omega
   ·by_cases h2:kk=2
    ·subst h2
     obtain ⟨uG,H5⟩:=H1.out rfl;have hE:Hid (T.strip.sumF f len 0=r.strip.sumF f len (min (a+nn*si) 4097)):=qh (by rw [hq.out,if_neg h1,if_pos rfl]);have uH:0≤nn*si:=Int.mul_nonneg (by omega) Hg;have uI:nn*si≤64*4097:=Int.mul_le_mul H5 H2 Hg (by omega);have H6:IntKind.i64.wrap (nn*si)=nn*si:=IntWalk.i64_in _ (by omega);have uJ:IntKind.i64.wrap (a+nn*si)=a+nn*si:=IntWalk.i64_in _ (by omega);have HG:=qh (show W2.heap[T6]?=some (.cells #[int i64 2,int i64 nn,sv un,int i64 u,.slice ja its.len jc,.slice ma ms.length mc] 121 (0,0)) from Hi.out);go_wp2_with fail
     try simp only [HE]
     have ha:=qh (show TabW w0 n G len W2.drew∧ButOne G W2 W2.drew from ⟨hH.out.below (Below.refl _ W2).drew,ButOne.of_below (Below.refl _ W2).drew⟩);have hd:=qh (show ∀V,ButOne G W2.drew V→V.heap[T2]?=some (.cells tc 125 (0,0))∧V.heap[T6]?=some (.cells #[int i64 2,int i64 nn,sv un,int i64 u,.slice ja its.len jc,.slice ma ms.length mc] 121 (0,0)) from λV hv=>⟨hv.heap h5.out ht.out,hv.heap HG.out hS.out⟩);have hC:=qh (hd.out _ (ButOne.refl _ _));refine wp_region_held (S:=λV=>V.heap[T2]?=some (.cells tc 125 (0,0))∧V.heap[T6]?=some (.cells #[int i64 2,int i64 nn,sv un,int i64 u,.slice ja its.len jc,.slice ma ms.length mc] 121 (0,0))) (by kernel_rfl) ?_;change wpAnyH _ _ _ _ _ _ _ _ W2.drew;refine tkS (i:=0) (oi:=_) (v:=.pointer (some ⟨T6,1,none⟩)) rfl (by kernel_rfl) (λ_ _ _ h=>h) (λV hb=>by go_simp) hC.out ?_
     try simp only [Act.put,qz]
     refine tkS (i:=1) (oi:=_) (v:=int i64 nn) rfl (by kernel_rfl) (λ_ _ _ h=>h) (λV hb=>by have q0:=Aa hb.2 1 rfl;go_simp) hC.out ?_
     try simp only [Act.put,qz]
     refine tq 2 _ (.agg tc) rfl (by kernel_rfl) (λ_ _ _ h=>h) (Cv rfl 125 _ rfl T2 rfl 125 tc (0,0) _ (λV hb=>hb.1) Tryz.underlying125 rfl (by rw [HZ.out];kernel_rfl)) hC.out ?_
     try simp only [Act.put,qz]
     refine tkS (i:=3) (oi:=_) (v:=.pointer (some ⟨T6,4,none⟩)) rfl (by kernel_rfl) (λ_ _ _ h=>h) (λV hb=>by go_simp) hC.out ?_
     try simp only [Act.put,qz]
     refine tkS (i:=4) (oi:=_) (v:=.slice ja its.len jc) rfl (by kernel_rfl) (λ_ _ _ h=>h) (λV hb=>by have q0:=Aa hb.2 4 rfl;go_simp) hC.out ?_
     try simp only [Act.put,qz]
     refine tr 5 _ (by kernel_rfl) rfl λK1 hK=>?_
     go_simp;refine (HC.out _ ha.out.1 ha.out.2).mono ?_;rintro e V ⟨rfl,hM,hF⟩;have he:=qh hM;have hr:=qh (ha.out.2.trans hF);have hN:=hd.out V hF;clear hC hd hM hF;have hC:=qh hN;clear hN;refine hK.out _ _ hC.out (λ_=>?_);clear hK K1
     try simp only [Act.put,qz]
     refine tkS (i:=6) (oi:=_) (v:=int i64 (nn*si)) rfl (by kernel_rfl) (λ_ _ _ h=>h) (λV hb=>by go_simp) hC.out ?_
     try simp only [Act.put,qz]
     refine tkS (i:=7) (oi:=_) (v:=int i64 (nn*si)) rfl (by kernel_rfl) (λ_ _ _ h=>h) (λV hb=>by go_simp) hC.out ?_
     try simp only [Act.put,qz]
     refine wpAnyH_done (by kernel_rfl) ?_ _;clear H6;go_wp2_with fail;have hD:=qh (hZ.out _ he.out hr.out);go_roundw
     case rel=>exact ⟨j+1,r,_,by go_num,rfl,by omega,by omega,by omega,hW,hE,hX,hY,qh hD.out.1,qh hD.out.2.1,qh hD.out.2.2.1,qh hD.out.2.2.2⟩
     case measure=>simp [intOf];omega
    ·by_cases h3:kk=3
     ·subst h3
      have hE:Hid (T.strip.sumF f len 0=r.strip.sumF f len (min (a+si) 4097)):=qh (by rw [hq.out,if_neg h1,if_neg h2,if_pos rfl])
      go_wp2_with (first|(refine wpList_load_row rfl 125 _ rfl T2 rfl 125 tc (0,0) _ h5.out Tryz.underlying125 rfl (by rw [HZ.out];kernel_rfl) ?_;simp only [Act.put,qD,qE,qF])|(go_at_call 65;refine (HC.out _ hH.out (ButOne.refl _ _)).mono ?_;rintro e V ⟨rfl,hM,hF⟩;have he:=qh hM;have hr:=qh hF;clear hM hF));have hD:=qh (hZ.out _ he.out hr.out);go_roundw
      case rel=>exact ⟨j+1,r,_,by go_num,rfl,by omega,by omega,by omega,hW,hE,hX,hY,qh hD.out.1,qh hD.out.2.1,qh hD.out.2.2.1,qh hD.out.2.2.2⟩
      case measure=>simp [intOf];omega
     ·by_cases h4:kk=4
      ·subst h4
       obtain ⟨Hj,HH⟩:=H0.out rfl;have hE:Hid (T.strip.sumF f len 0=r.strip.sumF f len (min (a+len u) 4097)):=qh (by rw [hq.out,if_neg h1,if_neg h2,if_neg h3,if_pos rfl,← Hj]);have Hk:=h7.out u HH;obtain ⟨j2,p,rfl,hp,Hl⟩:=HP.out u HH;have Hm:=qh Hl;have hU:=Hu.out j2 p hp;obtain ⟨pc0,pc1⟩:=Hr.out j2 p hp W2 hH.out;unfold Ph.val at pc1;have H7:=Ht.out j2 p hp;have H8:=qh (Hs.out j2 p hp);obtain ⟨gv,h6,HJ,Hn⟩:=hH.out.cell hU;have H9:(j2:Int)<(n:Int):=by omega
       clear Hj HH Hl hp;obtain ⟨lu,hJ⟩:∃lu,len (j2:Nat)=lu:=⟨_,rfl⟩
       have HK:=qh (show ∀V,TabW w0 n G len V→TabW w0 n G len (V.setCell ⟨G,j2,none⟩ (int i64 lu))∧(V.setCell ⟨G,j2,none⟩ (int i64 lu)).cell? ⟨G,j2,none⟩=some (int i64 lu)∧ButOne G V (V.setCell ⟨G,j2,none⟩ (int i64 lu)) from λV hV=>by
        rw [← hJ];obtain ⟨gv,h6,_,_⟩:=hV.cell hU
        exact ⟨hV.set j2,World.cell?_setCell_same _ _ _ h6,ButOne.setCell (p:=⟨G,j2,none⟩) _⟩)
       rw [hJ] at Hm hE Hk HJ;obtain ⟨l0,l1⟩:=Hk;have uK:=qh hJ;clear hJ;generalize uL:blk s.fa=fb at *;generalize uM:off s.fa=fo at *;generalize uN:s.fa=fav at *;subst H7;have uA:=qh pc1;by_cases Ho:gv=lu
       ·subst Ho
        have uO:¬gv<0:=by omega
        have hD:=qh (hZ.out W2 hH.out (ButOne.refl _ _));go_wp2_with fail;go_roundw
        case rel=>exact ⟨j+1,r,_,by go_num,rfl,by omega,by omega,by omega,hW,hE,hX,hY,qh hD.out.1,qh hD.out.2.1,qh hD.out.2.2.1,qh hD.out.2.2.2⟩
        case measure=>simp [intOf];omega
       ·obtain rfl:gv=-1:=by omega
        clear HJ Ho;have HG:=qh (show W2.heap[T6]?=some (.cells #[int i64 4,int i64 nn,sv un,int i64 (j2:Nat),.slice ja its.len jc,.slice ma ms.length mc] 121 (0,0)) from Hi.out);go_wp2_with fail
        try simp only [HE]
        have ha:=qh (show TabW w0 n G len W2.drew∧ButOne G W2 W2.drew from ⟨hH.out.below (Below.refl _ W2).drew,ButOne.of_below (Below.refl _ W2).drew⟩);have Hp:=qh (show fb≠G by rintro rfl;exact absurd H8.out (by have:=hH.out.hg;omega));have hd:=qh (show ∀V,ButOne G W2.drew V→V.heap[T2]?=some (.cells tc 125 (0,0))∧V.heap[T6]?=some (.cells #[int i64 4,int i64 nn,sv un,int i64 (j2:Nat),.slice ja its.len jc,.slice ma ms.length mc] 121 (0,0))∧V.cell? ⟨fb,fo+j2*2+1,none⟩=some (.slice p.ia p.its.len p.ic) from λV hv=>⟨hv.heap h5.out ht.out,hv.heap HG.out hS.out,hv.cell uA.out Hp.out⟩)
        have HN:=qh (show ∀V:World,(V.heap[T2]?=some (.cells tc 125 (0,0))∧V.heap[T6]?=some (.cells #[int i64 4,int i64 nn,sv un,int i64 (j2:Nat),.slice ja its.len jc,.slice ma ms.length mc] 121 (0,0))∧V.cell? ⟨fb,fo+j2*2+1,none⟩=some (.slice p.ia p.its.len p.ic))→(V.setCell ⟨G,j2,none⟩ (int i64 lu)).heap[T2]?=some (.cells tc 125 (0,0))∧(V.setCell ⟨G,j2,none⟩ (int i64 lu)).heap[T6]?=some (.cells #[int i64 4,int i64 nn,sv un,int i64 (j2:Nat),.slice ja its.len jc,.slice ma ms.length mc] 121 (0,0))∧(V.setCell ⟨G,j2,none⟩ (int i64 lu)).cell? ⟨fb,fo+j2*2+1,none⟩=some (.slice p.ia p.its.len p.ic) from λV hv=>by
         have hb:=ButOne.setCell (W:=V) (p:=⟨G,j2,none⟩) (int i64 lu)
         exact ⟨hb.heap hv.1 ht.out,hb.heap hv.2.1 hS.out,hb.cell hv.2.2 Hp.out⟩)
        have hC:=qh (hd.out _ (ButOne.refl _ _));clear h6 Hn z10 z12 y0 y1 y3 y4;refine wp_region_held (S:=λV=>V.heap[T2]?=some (.cells tc 125 (0,0))∧V.heap[T6]?=some (.cells #[int i64 4,int i64 nn,sv un,int i64 (j2:Nat),.slice ja its.len jc,.slice ma ms.length mc] 121 (0,0))∧V.cell? ⟨fb,fo+j2*2+1,none⟩=some (.slice p.ia p.its.len p.ic)) (by kernel_rfl) ?_;change wpAnyH _ _ _ _ _ _ _ _ W2.drew;refine tkS (i:=0) (oi:=_) (v:=.pointer (some ⟨T2,12,none⟩)) rfl (by kernel_rfl) (λ_ _ _ h=>h) (λV hb=>by go_simp) hC.out ?_
        try simp only [Act.put,qz]
        refine tkS (i:=1) (oi:=_) (v:=.slice (some ⟨G,0,none⟩) n n) rfl (by kernel_rfl) (λ_ _ _ h=>h) (λV hb=>by have q0:=Aa hb.1 12 hO.out;go_simp) hC.out ?_
        try simp only [Act.put,qz]
        refine tkS (i:=2) (oi:=_) (v:=.pointer (some ⟨T6,2,none⟩)) rfl (by kernel_rfl) (λ_ _ _ h=>h) (λV hb=>by go_simp) hC.out ?_
        try simp only [Act.put,qz]
        refine tkS (i:=3) (oi:=_) (v:=.pointer (some ⟨T6,3,none⟩)) rfl (by kernel_rfl) (λ_ _ _ h=>h) (λV hb=>by go_simp) hC.out ?_
        try simp only [Act.put,qz]
        refine tkS (i:=4) (oi:=_) (v:=int i64 (j2:Nat)) rfl (by kernel_rfl) (λ_ _ _ h=>h) (λV hb=>by have q0:=Aa hb.2.1 3 rfl;go_simp) hC.out ?_
        try simp only [Act.put,qz]
        refine tq 5 _ (.agg tc) rfl (by kernel_rfl) (λ_ _ _ h=>h) (Cv rfl 125 _ rfl T2 rfl 125 tc (0,0) _ (λV hb=>hb.1) Tryz.underlying125 rfl (by rw [HZ.out];kernel_rfl)) hC.out ?_
        try simp only [Act.put,qz]
        refine tkS (i:=6) (oi:=_) (v:=.pointer (some ⟨T2,0,none⟩)) rfl (by kernel_rfl) (λ_ _ _ h=>h) (λV hb=>by go_simp) hC.out ?_
        try simp only [Act.put,qz]
        refine tkS (i:=7) (oi:=_) (v:=.pointer (some ⟨T2,10,none⟩)) rfl (by kernel_rfl) (λ_ _ _ h=>h) (λV hb=>by go_simp) hC.out ?_
        try simp only [Act.put,qz]
        refine tkS (i:=8) (oi:=_) (v:=.slice (some ⟨fb,fo,none⟩) n fc) rfl (by kernel_rfl) (λ_ _ _ h=>h) (λV hb=>by have q0:=Aa hb.1 10 hk.out;go_simp) hC.out ?_
        try simp only [Act.put,qz]
        refine tkS (i:=9) (oi:=_) (v:=.pointer (some ⟨T6,2,none⟩)) rfl (by kernel_rfl) (λ_ _ _ h=>h) (λV hb=>by go_simp) hC.out ?_
        try simp only [Act.put,qz]
        refine tkS (i:=10) (oi:=_) (v:=.pointer (some ⟨T6,3,none⟩)) rfl (by kernel_rfl) (λ_ _ _ h=>h) (λV hb=>by go_simp) hC.out ?_
        try simp only [Act.put,qz]
        refine tkS (i:=11) (oi:=_) (v:=int i64 (j2:Nat)) rfl (by kernel_rfl) (λ_ _ _ h=>h) (λV hb=>by have q0:=Aa hb.2.1 3 rfl;go_simp) hC.out ?_
        try simp only [Act.put,qz]
        refine tkS (i:=12) (oi:=_) (v:=.pointer (some ⟨fb,fo+j2*2,none⟩)) rfl (by kernel_rfl) (λ_ _ _ h=>h) (λV hb=>by go_simp) hC.out ?_
        try simp only [Act.put,qz]
        refine tkS (i:=13) (oi:=_) (v:=.pointer (some ⟨fb,fo+j2*2+1,none⟩)) rfl (by kernel_rfl) (λ_ _ _ h=>h) (λV hb=>by go_simp) hC.out ?_
        try simp only [Act.put,qz]
        refine tkS (i:=14) (oi:=_) (v:=.slice p.ia p.its.len p.ic) rfl (by kernel_rfl) (λ_ _ _ h=>h) (λV hb=>by have q0:=hb.2.2;go_simp) hC.out ?_
        try simp only [Act.put,qz]
        refine tr 15 _ (by kernel_rfl) rfl λK1 hK=>?_
        go_simp;refine (Hm.out _ ha.out.1).mono ?_;rintro e V ⟨rfl,hM,hF⟩;have he:=qh hM;have hr:=qh (ha.out.2.trans hF);have hN:=hd.out V hF;clear hC hM hF;have hC:=qh hN;clear hN;refine hK.out _ _ hC.out (λ_=>?_);clear hK K1
        try simp only [Act.put,qz]
        refine tkS (i:=16) (oi:=_) (v:=.pointer (some ⟨G,j2,none⟩)) rfl (by kernel_rfl) (λ_ _ _ h=>h) (λV hb=>by go_simp) hC.out ?_
        try simp only [Act.put,qz]
        refine tr 17 _ (by kernel_rfl) rfl λK1 hK=>?_
        obtain ⟨gv,h6,HJ,Hn⟩:=he.out.cell hU;have hN:=HN.out V hC.out;clear hC;have hC:=qh hN;clear hN;go_simp;refine hK.out _ _ hC.out (λ_=>?_);clear hK K1
        try simp only [Act.put,qz]
        refine wpAnyH_done (by kernel_rfl) ?_ _;have HO:=qh (HK.out _ he.out);have uB:=qh (hr.out.trans HO.out.2.2);have c1:=HO.out.2.1;have c2:=Aa hC.out.1 12 hO.out;have c3:=Aa hC.out.2.1 3 rfl;have hD:=qh (hZ.out _ HO.out.1 uB.out);go_wp2_with fail;go_roundw
        case rel=>exact ⟨j+1,r,_,by go_num,rfl,by omega,by omega,by omega,hW,hE,hX,hY,qh hD.out.1,qh hD.out.2.1,qh hD.out.2.2.1,qh hD.out.2.2.2⟩
        case measure=>simp [intOf];omega
      ·have hE:Hid (T.strip.sumF f len 0=r.strip.sumF f len (min (a+0) 4097)):=qh (by rw [hq.out,if_neg h1,if_neg h2,if_neg h3,if_neg h4])
       have hD:=qh (hZ.out W2 hH.out (ButOne.refl _ _));go_wp2_with fail;go_roundw
       case rel=>exact ⟨j+1,r,_,by go_num,by simp,by omega,by omega,by omega,hW,hE,hX,hY,qh hD.out.1,qh hD.out.2.1,qh hD.out.2.2.1,qh hD.out.2.2.2⟩
       case measure=>simp [intOf];omega
end
section
open Go Go.RowKit Go.Shelf
def Nr(x:BarR):Array Value:=#[.agg #[.slice x.ma x.ms.length x.mc,.bool x.mir]]
structure BrW(w0:World)(n:Nat)(tc sc:Array Value)(len:Int→Int)(G TB SB YB WB l:Nat)(W:World):Prop where
 tab:TabW w0 n G len W
 tb:W.heap[TB]?=some (.cells tc 125 (0,0))
 sb:W.heap[SB]?=some (.cells sc 30 (0,0))
 yb:W.heap[YB]?=some (.cells #[.func (.yield l) #[] #[]] 126 (0,0))
 wb:W.heap[WB]?=some (.cells #[.func (.func 64) #[] #[.pointer (some ⟨TB,0,none⟩),.pointer (some ⟨YB,0,none⟩),.pointer (some ⟨WB,0,none⟩),.pointer (some ⟨SB,0,none⟩)]] 127 (0,0))
theorem B6{W:World}{a b:Nat}{cs ds:Array Value}{t u:TypeId}{f g:Nat×Nat}(h:W.heap[a]?=some (.cells cs t f))(k:W.heap[b]?=some (.cells ds u g))(ht:t≠u):a≠b:=by
 rintro rfl;rw [h] at k;injection k with k;injection k with _ k;exact ht k
theorem FJ{W:World}{a:Nat}{cs:Array Value}{t u:TypeId}{f:Nat×Nat}(h:W.heap[a]?=some (.cells cs t f))(ht:t≠u):¬F9 u W a:=λ⟨c,g,k⟩=>by
 rw [h] at k;injection k with k;injection k with _ k;exact ht k
section
variable {w0:World} {n:Nat} {tc sc:Array Value} {len:Int→Int} {G TB SB YB WB l B:Nat} {W W':World}
theorem BrW.but(h:BrW w0 n tc sc len G TB SB YB WB l W)(hb:ButOne G W W')(ht:TabW w0 n G len W'):BrW w0 n tc sc len G TB SB YB WB l W':=by
 obtain ⟨x,h1,_⟩:=h.tab.tab;exact ⟨ht,hb.heap h.tb (B6 h.tb h1 (by decide)),hb.heap h.sb (B6 h.sb h1 (by decide)),hb.heap h.yb (B6 h.yb h1 (by decide)),hb.heap h.wb (B6 h.wb h1 (by decide))⟩
theorem BrW.below(h:BrW w0 n tc sc len G TB SB YB WB l W)(hb:Below W.heap.size W W'):BrW w0 n tc sc len G TB SB YB WB l W':=h.but (ButOne.of_below hb) (h.tab.below hb)
theorem BrW.round(h:BrW w0 n tc sc len G TB SB YB WB l W)(hB:B≤TB∧B≤SB∧B≤YB∧B≤WB∧B≤G)(hr:Rnd B W W')(h0:Below w0.heap.size w0 W'):BrW w0 n tc sc len G TB SB YB WB l W':=by
 obtain ⟨x,h1,h2⟩:=h.tab.tab;have k:=λ(b:Nat) (cs:Array Value) (t:TypeId) (hb:B≤b) (e:W.heap[b]?=some (.cells cs t (0,0))) (ht:t≠54)=>(hr.block b hb (qs.1 e).1 (FJ e ht)).trans e
 exact ⟨⟨h0,h.tab.hg,x,k G _ 3 hB.2.2.2.2 h1 (by decide),h2⟩,k TB _ _ hB.1 h.tb (by decide),k SB _ _ hB.2.1 h.sb (by decide),k YB _ _ hB.2.2.1 h.yb (by decide),k WB _ _ hB.2.2.2.1 h.wb (by decide)⟩
end
structure Kp(B:Nat)(W W':World):Prop where
 size:W.heap.size≤W'.heap.size
 block:∀b,B≤b→b<W.heap.size→¬F9 54 W b→¬F9 3 W b→W'.heap[b]?=W.heap[b]?
theorem Kp.refl(B:Nat)(W:World):Kp B W W:=⟨qn _,λ_ _ _ _ _=>rfl⟩
theorem Kp.trans{B:Nat}{X Y Z:World}(h:Kp B X Y)(k:Kp B Y Z):Kp B X Z:=⟨Nat.le_trans h.size k.size,λb h1 h2 h3 h4=>by
 have e:=h.block b h1 h2 h3 h4
 exact (k.block b h1 (Nat.lt_of_lt_of_le h2 h.size) (λ⟨c,f,e2⟩=>h3 ⟨c,f,e.symm.trans e2⟩) (λ⟨c,f,e2⟩=>h4 ⟨c,f,e.symm.trans e2⟩)).trans e⟩
theorem Kp.of_mv{B:Nat}{W W':World}(h:Mv B W W'):Kp B W W':=⟨h.size,λb _ h2 _ h4=>h.block b h2 (Or.inr h4)⟩
theorem Kp.of_rnd{B:Nat}{W W':World}(h:Rnd B W W'):Kp B W W':=⟨h.size,λb h1 h2 h3 _=>h.block b h1 h2 h3⟩
theorem Kp.heap{B:Nat}{W W':World}(h:Kp B W W'){b:Nat}{cs:Array Value}{t:TypeId}{f:Nat×Nat}(hb:B≤b)(e:W.heap[b]?=some (.cells cs t f))(h1:t≠54)(h2:t≠3):W'.heap[b]?=some (.cells cs t f) :=
 (h.block b hb (qs.1 e).1 (FJ e h1) (FJ e h2)).trans e
structure WkH(B l:Nat)(w0:World)(J:List BarR→World→Prop)(Jx:World→Prop)(L:List BarR):Prop where
 kept:∀s W W',J s W→Mv B W W'→J s W'
 rd:∀pre W,J pre W→Below w0.heap.size w0 W
 yield:∀pre x rest W,L=pre++x::rest→J pre W→∀m,YieldAt Fence.wide m Tryz.prog l (Nr x) W λe W'=>(e=.returned (.bool true)∧J (pre++[x]) W'∧Rnd B W W')∨(e=.returned (.bool false)∧Jx W')
theorem WkH.one{B l:Nat}{w0:World}{J:List BarR→World→Prop}{Jx:World→Prop}{L:List BarR}(h:WkH B l w0 J Jx L){pre rest:List BarR}{x:BarR}{W:World}(hA:L=pre++x::rest)(hj:J pre W)(m:Nat) :
  ∃fn tmps assign body,(Instr.yield l (Nr x)).run Tryz.prog W=.ok (.round l fn tmps assign body) W∧RoundIn Fence.wide m Tryz.prog l fn tmps assign body W (λe W'=>∃t,e=.returned (.bool t)∧Hid ((t=true∧J (pre++[x]) W'∧Rnd B W W')∨(t=false∧Jx W'))):=by
 refine YieldAt.to (h.yield pre x rest W hA hj m) ?_;rintro e W' (⟨rfl,h1,h2⟩|⟨rfl,h1⟩)
 ·exact ⟨true,rfl,qh (Or.inl ⟨rfl,h1,h2⟩)⟩
 ·exact ⟨false,rfl,qh (Or.inr ⟨rfl,h1⟩)⟩
def WkP(Br:World→Prop)(B:Nat)(J:List BarR→World→Prop)(Jx:World→Prop)(pre bs:List BarR)(W:World)(e:Ending)(W':World):Prop :=
 ∃t:Bool,e=.returned (.bool t)∧Hid ((t=true∧J (pre++bs) W'∧Br W'∧Kp B W W')∨(t=false∧Jx W'))
structure OldT(f:Nm→Int)(w0:World)(T:Lt)(b o:Nat):Prop where
 at_:T.At w0 b o
 num:NumAt f w0 (T.refsL b o)
theorem OldT.parts{f:Nm→Int}{w0:World}{k n:Int}{un:Nm}{ia:Option Addr}{ic:Nat}{its:Lt}{ma:Option Addr}{mc:Nat}{ms:List Mov}{r:Lt}{b o:Nat}(h:OldT f w0 (.cons k n un ia ic its ma mc ms r) b o) :
  (∃u,w0.cell? ⟨b,o+3,none⟩=some (int i64 u)∧(k=4→u=f un))∧OldT f w0 its (blk ia) (off ia)∧OldT f w0 r b (o+6):=by
 obtain ⟨h1,h2,h3,h4⟩:=h.num.mov;exact ⟨h1,⟨h.at_.2.2.1.2.2,h3⟩,⟨h.at_.2.2.2,h4⟩⟩
theorem LU{f:Nm→Int}{w0 W:World}{G X:Nat}{kk nn:Int}{un:Nm}{u:Int}{ja:Option Addr}{jc:Nat}{its:Lt}{ma:Option Addr}{mc:Nat}{ms:List Mov}{r:Lt}{b o:Nat}(h:OldT f w0 (.cons kk nn un ja jc its ma mc ms r) b o)(hu:kk=4→u=f un)(hb:Below w0.heap.size w0 W)(hg:w0.heap.size≤G)(hX:X≠G)
  (hc:W.heap[X]?=some (.cells #[int i64 kk,int i64 nn,sv un,int i64 u,.slice ja its.len jc,.slice ma ms.length mc] 121 (0,0))):ItW f G W (.cons kk nn un ja jc its ma mc ms .nil) X 0:=by
 obtain ⟨⟨g0,g1,g2,g4,g5⟩,⟨m1,m2,m3⟩,⟨i1,i2,i3⟩,_⟩:=h.at_;obtain ⟨_,h2,h3,_⟩:=h.num.mov;have hA:=h.at_.blocks_lt;refine ⟨⟨⟨Aa hc 0 rfl,Aa hc 1 rfl,Aa hc 2 rfl,Aa hc 4 rfl,Aa hc 5 rfl⟩,⟨m1,m2,Cf m3 hb⟩,⟨i1,i2,i3.below hb⟩,trivial⟩,λx hx=>?_,Or.inr hX,λhG=>?_⟩
 ·simp only [Lt.refsL,List.mem_cons,List.mem_append,List.append_nil] at hx
  rcases hx with rfl|hx|hx
  ·exact ⟨u,Aa hc 3 rfl,λht=>hu (by unfold By at ht;split at ht<;>first|assumption|(simp at ht))⟩
  ·exact (h2.below hb) x hx
  ·exact (h3.below hb) x hx
 ·have:=hA G (by simp only [Lt.blocks,List.mem_append,List.append_nil] at hG ⊢;rcases hG with hG|hG|hG<;>simp [hG])
  omega
def QC(s:Ls)(Br:World→Prop)(B TB YB WB SB:Nat)(J:List BarR→World→Prop)(Jx:World→Prop)(L:List BarR)(Bf:Int→List BarR)(us:List Int):Prop:=∀u∈us,∃(j:Nat) (p:Ph),u=j∧s.phrases[j]?=some p∧∀(mir:Bool) (pre rest:List BarR) (V:World),L=pre++(AA mir (Bf j)++rest)→J pre V→Br V→Calls Tryz.prog 64 #[.slice p.ia p.its.len p.ic,.bool mir,.pointer (some ⟨TB,0,none⟩),.pointer (some ⟨YB,0,none⟩),.pointer (some ⟨WB,0,none⟩),.pointer (some ⟨SB,0,none⟩)] V (WkP Br B J Jx pre (AA mir (Bf j)) V)
theorem N2{A B:Prop}(h:(false=true∧A)∨(false=false∧B)):B:=by
 rcases h with ⟨h,_⟩|⟨_,h⟩
 ·cases h
 ·exact h
theorem N3{A B:Prop}(h:(true=true∧A)∨(true=false∧B)):A:=by
 rcases h with ⟨_,h⟩|⟨h,_⟩
 ·exact h
 ·cases h
theorem O1(n:Nat)(l:List BarR):Cy (n+1) l=Cy n l++l:=by
 induction n with
 | zero=>simp [Cy]
 | succ n ih=>show l++Cy (n+1) l=(l++Cy n l)++l;rw [ih,List.append_assoc]
theorem RH{i n:Nat}{l:List BarR}(h:i<n):Cy n l=Cy i l++(l++Cy (n-i-1) l):=by
 induction n generalizing i with
 | zero=>omega
 | succ n ih =>
  cases i with
  | zero=>simp [Cy]
  | succ i =>
   rw [Cy,ih (show i<n by omega),Cy,List.append_assoc,show n+1-(i+1)-1=n-i-1 by omega]
theorem Uc{tc:Array Value}(h:tc.size=13):∃c0 c1 c2 c3 c4 c5 c6 c7 c8 c9 c10 c11 c12,tc=#[c0,c1,c2,c3,c4,c5,c6,c7,c8,c9,c10,c11,c12]:=by
 obtain ⟨l⟩:=tc;simp only [List.size_toArray] at h
 match l,h with
 | [c0,c1,c2,c3,c4,c5,c6,c7,c8,c9,c10,c11,c12],_=>exact ⟨_,_,_,_,_,_,_,_,_,_,_,_,_,rfl⟩
def WkC(f:Nm→Int)(w0:World)(Br:World→Prop)(B TB YB WB SB:Nat)(J:List BarR→World→Prop)(Jx:World→Prop)(L:List BarR)(Bf:Int→List BarR)(P:List Int→Prop)(T:Lt):Prop :=
 ∀(ia:Option Addr) (ic:Nat) (mir:Bool) (pre rest:List BarR) (W:World),T.strip.exB=true→P (T.strip.uses f)→(T.len=0∨ia=some ⟨blk ia,off ia,none⟩)→T.len≤maxLen→OldT f w0 T (blk ia) (off ia)→L=pre++(AA mir (T.bars f Bf)++rest)→J pre W→Br W →
  Calls Tryz.prog 64 #[.slice ia T.len ic,.bool mir,.pointer (some ⟨TB,0,none⟩),.pointer (some ⟨YB,0,none⟩),.pointer (some ⟨WB,0,none⟩),.pointer (some ⟨SB,0,none⟩)] W (WkP Br B J Jx pre (AA mir (T.bars f Bf)) W)
section
attribute [local go_sem] Oper.semAt_some
theorem Ow(s:Ls)(f:Nm→Int)(w0:World)(len:Int→Int)(Bf:Int→List BarR)(B G TB YB WB SB l:Nat)(tc:Array Value)(J:List BarR→World→Prop)(Jx:World→Prop)(L:List BarR)(hA:s.At w0)(He:tc.size=13)(Br:World→Prop)(hG:Br=BrW w0 s.phrases.length tc s.cells len G TB SB YB WB l)
  (hB:B≤TB∧B≤SB∧B≤YB∧B≤WB∧B≤G) (Hf:w0.heap.size≤B) (hH:WkH B l w0 J Jx L)
  (Hg:∀(T:Lt) (ia:Option Addr) (ic:Nat) (V:World),T.strip.exB=true→(∀u∈T.strip.uses f,∃(j:Nat) (p:Ph),u=j∧s.phrases[j]?=some p)→(T.len=0∨ia=some ⟨blk ia,off ia,none⟩)→T.len≤maxLen→ItW f G V T (blk ia) (off ia)→TabW w0 s.phrases.length G len V→Calls Tryz.prog 65 #[.agg tc,.slice ia T.len ic] V (Lq w0 s.phrases.length G len (T.strip.sumF f len 0) V))
  (hk:∀(j:Nat) (p:Ph),s.phrases[j]?=some p→len j=min ((Bf j).length:Int) 4097) (T:Lt)
  (hI:∀T':Lt,T'.size<T.size→WkC f w0 Br B TB YB WB SB J Jx L Bf (QC s Br B TB YB WB SB J Jx L Bf) T'):WkC f w0 Br B TB YB WB SB J Jx L Bf (QC s Br B TB YB WB SB J Jx L Bf) T:=by
 intro ia ic mir pre rest W hx hP hf hl hT Hh hJ hW;have H2:=hA.plen
 have H3:=qh (show ∀(j:Nat) (p:Ph),s.phrases[j]?=some p→∀V,Br V→V.cell? ⟨blk s.fa,off s.fa+j*2+1,none⟩=some p.val∧s.fa=some ⟨blk s.fa,off s.fa,none⟩∧j<s.phrases.length from λj p hp V hV=>by
  rw [hG] at hV
  exact ⟨(Cs (Bd hV.tab.sc hA.phrases) hp).2,hA.pform.resolve_left (λe=>by rw [e] at hp;cases hp),(ql.1 hp).1⟩)
 have H4:=qh (show ∀V,Br V→V.cell? ⟨SB,10,none⟩=some (.slice s.fa s.phrases.length s.fc) from λV hV=>by rw [hG] at hV;exact Aa hV.sb 10 rfl);have Hi:=qh (show ∀V,Br V→V.cell? ⟨WB,0,none⟩=some (.func (.func 64) #[] #[.pointer (some ⟨TB,0,none⟩),.pointer (some ⟨YB,0,none⟩),.pointer (some ⟨WB,0,none⟩),.pointer (some ⟨SB,0,none⟩)]) from λV hV=>by rw [hG] at hV;exact Aa hV.wb 0 rfl);have H5:=qh (show ∀V,Br V→V.cell? ⟨YB,0,none⟩=some (.func (.yield l) #[] #[]) from λV hV=>by rw [hG] at hV;exact Aa hV.yb 0 rfl);have Hj:=qh (show ∀V,Br V→V.heap[TB]?=some (.cells tc 125 (0,0)) from λV hV=>by rw [hG] at hV;exact hV.tb);have hn:=qh (show ∀V,Br V→TabW w0 s.phrases.length G len V from λV hV=>by rw [hG] at hV;exact hV.tab);have HD:=qh (show ∀V V',Br V→Below V.heap.size V V'→Br V' from λV V' hV hb=>by rw [hG] at hV ⊢;exact hV.below hb);have H6:=qh (show ∀V V',Br V→ButOne G V V'→TabW w0 s.phrases.length G len V'→Br V' from λV V' hV hb ht=>by rw [hG] at hV ⊢;exact hV.but hb ht);have H7:=qh (show ∀V V',Br V→Rnd B V V'→Below w0.heap.size w0 V'→Br V' from λV V' hV hr hb=>by rw [hG] at hV ⊢;exact hV.round hB hr hb)
 have Hk:=qh (show ∀V V',Br V→ButOne G V V'→Mv B V V' from λV V' hV hb=>by
  rw [hG] at hV;obtain ⟨x,h1,_⟩:=hV.tab.tab
  exact Mv.of_but hb hB.2.2.2.2 (Or.inl ⟨_,_,h1⟩))
 have H8:=qh Hg;have HN:=qh hk;have HH:=qh hH;have HI:=qh hI;have HX:=qh hx;have HP:=qh hP;have HF:=qh hf;have HT:=qh hT;have HE:=qh Hh;have HJ:=qh hJ;have HW:=qh hW;have HZ:=qh He;have uN:=qh Hf;have H9:=qh hB.1;clear hA Hg hk hH hI hx hP hf hT Hh hJ hW He hB hG Hf;generalize hm:T.len=q at *;have HM:=qh hm;clear hm;obtain ⟨c0,c1,c2,c3,c4,c5,c6,c7,c8,c9,c10,c11,c12,rfl⟩:∃c0 c1 c2 c3 c4 c5 c6 c7 c8 c9 c10 c11 c12,tc=#[c0,c1,c2,c3,c4,c5,c6,c7,c8,c9,c10,c11,c12]:=Uc HZ.out;unfold maxLen at hl H2;have mixed:Tryz.prog.follows .mixedOrders=true:=by kernel_rfl
 refine (callsIn_wide (n:=10)).1 ?_;refine callsIn_of_wp Tryz.func64 rfl trivial ?_ rfl;simp only [Tryz.ntmps64,List.size_toArray,List.length_cons,List.length_nil,Nat.reduceAdd,Nat.reduceSub,Array.replicate_succ,Array.replicate_zero,List.push_toArray,List.append_toArray,List.nil_append,List.cons_append];gi_wp2_with fail;gi_loopw [13] (λiv wr=>∃(j:Nat) (R:Lt) (k:List BarR),iv=int i64 j∧j+R.len=q∧Hid (R.size≤T.size)∧Hid (AA mir (T.bars f Bf)=k++AA mir (R.bars f Bf))∧Hid (R.strip.exB=true)∧Hid (∀u∈R.strip.uses f,u∈T.strip.uses f)∧Hid (OldT f w0 R (blk ia) (off ia+j*6))∧Hid (J (pre++k) wr)∧Hid (Br wr)∧Hid (Kp B W wr)) (λiv _=>q+1-(intOf iv).toNat)
 case atStart=>exact ⟨0,T,[],rfl,by rw [HM.out];omega,qh (qn _),qh rfl,HX,qh (λ_ h=>h),by simpa [Hid] using HT.out,qh (by simpa using HJ.out),HW,qh (Kp.refl _ _)⟩
 case round =>
  obtain ⟨j,R,k,rfl,Hl,HO,HR,HS,ho,hR,hJ,hE,HU⟩:=hrel
  cases R with
  | nil =>
   simp only [Lt.len] at Hl;obtain rfl:j=q:=by omega
   have hZ:=HR.out;simp only [Lt.bars,show AA mir []=[] from rfl,List.append_nil] at hZ;have hK:=qh hZ;clear hZ;gi_wp2_with fail;go_ret;exact ⟨true,rfl,qh (Or.inl ⟨rfl,by rw [hK.out];exact hJ.out,hE.out,HU.out⟩)⟩
  | cons kk nn un ja jc its ma mc ms r =>
   simp only [Lt.len] at Hl;have hi:(j:Int)<(q:Int):=by omega
   have e:=HF.out.resolve_left (by omega);have HV:=(hn.out _ hE.out).sc;obtain ⟨⟨u,g3',hu⟩,hq,Hm⟩:=hR.out.parts;obtain ⟨⟨g0,g1,g2,g4,g5⟩,⟨m1,m2,_⟩,⟨i1,i2,_⟩,_⟩:=hR.out.at_.below HV;have g3:=Ad HV g3';obtain ⟨Hn,Ho,Hp⟩:=Its.exB_parts HS.out;have HG:its.size<T.size:=by have:=HO.out;simp only [Lt.size] at this;omega
   have hs:r.size≤T.size:=by have:=HO.out;simp only [Lt.size] at this;omega
   obtain ⟨T10,hw⟩:∃T10,wr.heap.size=T10:=⟨_,rfl⟩;obtain ⟨W2,uO,gW2,bW2,sW2⟩:=Af wr #[int i64 kk,int i64 nn,sv un,int i64 u,.slice ja its.len jc,.slice ma ms.length mc] 121;obtain ⟨W3,uP,gX,bW3,sW3⟩:=Af W2 #[int i64 kk,int i64 nn,sv un,int i64 u,.slice ja its.len jc,.slice ma ms.length mc] 121;have uA:G<wr.heap.size:=(hn.out _ hE.out).lt;rw [hw] at gW2;obtain ⟨X,hX⟩:∃X,W2.heap.size=X:=⟨_,rfl⟩;rw [hX] at gX;have Hq:W3.heap[T10]?=some (.cells #[int i64 kk,int i64 nn,sv un,int i64 u,.slice ja its.len jc,.slice ma ms.length mc] 121 (0,0)):=Ah bW3 gW2;have hL:Br W3:=HD.out _ _ (HD.out _ _ hE.out bW2) bW3;have h0:=(hn.out _ hL).sc;have Hr:=LU hR.out hu h0 (hn.out _ hL).hg (show X≠G by omega) gX
   have ha:(Lt.cons kk nn un ja jc its ma mc ms .nil).strip.exB=true:=by
    have:=HS.out;simp only [Lt.strip,Its.exB,Bool.and_eq_true] at this ⊢;exact ⟨this.1,this.2.1,this.2.2.1,⟨this.2.2.2.1.1,this.2.2.2.1.2⟩,trivial⟩
   have hc:∀v∈(Lt.cons kk nn un ja jc its ma mc ms .nil).strip.uses f,v∈T.strip.uses f:=λv hv=>ho.out v (by
    simp only [Lt.strip,Its.uses,List.append_nil,List.mem_append] at hv ⊢;rcases hv with hv|hv
    ·exact Or.inl hv
    ·exact Or.inr (Or.inl hv))
   have hd:∀v∈T.strip.uses f,∃(j:Nat) (p:Ph),v=j∧s.phrases[j]?=some p:=λv hv=>by
    obtain ⟨j,p,h1,h2,_⟩:=HP.out v hv;exact ⟨j,p,h1,h2⟩
   have hC:=H8.out (.cons kk nn un ja jc its ma mc ms .nil) (some ⟨X,0,none⟩) 1 W3 ha (λv hv=>hd v (hc v hv)) (Or.inr rfl) (by simp only [Lt.len];unfold maxLen;omega) Hr (hn.out _ hL)
   have HK:=DI f len Bf (.cons kk nn un ja jc its ma mc ms .nil) 0 ha (λv hv=>by
    obtain ⟨j,p,rfl,hp⟩:=hd v (hc v hv)
    exact HN.out j p hp) (by omega) (by omega)
   obtain ⟨v1,h5⟩:∃v1,(Lt.cons kk nn un ja jc its ma mc ms .nil).strip.sumF f len 0=v1:=⟨_,rfl⟩;rw [h5] at hC HK;have hQ:(Lt.cons kk nn un ja jc its ma mc ms .nil).bars f Bf=itB f Bf kk nn un ma mc ms (its.bars f Bf):=by simp [Lt.bars]
   rw [hQ] at HK;have hK:=qh (show AA mir (T.bars f Bf)=k++(AA mir (itB f Bf kk nn un ma mc ms (its.bars f Bf))++AA mir (r.bars f Bf)) by rw [HR.out];simp only [Lt.bars,IV]);simp only [Lt.len] at hC;have HC:=qh hC;have Hs:=qh (show ∀v∈its.strip.uses f,v∈T.strip.uses f from λv hv=>ho.out v (by simp [Lt.strip,Its.uses,hv]));have h6:=qh (show ∀v∈r.strip.uses f,v∈T.strip.uses f from λv hv=>ho.out v (by simp [Lt.strip,Its.uses,hv]));have uB:=qh (show kk=4→u=f un∧u∈T.strip.uses f from λh4=>⟨hu h4,by rw [hu h4];exact ho.out _ (by simp [Lt.strip,Its.uses,h4])⟩);have uC:=qh (show kk=2→1≤nn∧nn≤64 from λh2=>by subst h2;exact Fm Hn)
   have h7:=qh (show OldT f w0 r (blk ia) (off ia+(j+1)*6) by
    rw [show off ia+(j+1)*6=off ia+j*6+6 by omega]
    exact Hm)
   have hD:=qh (And.intro hq (And.intro i1 (And.intro i2 (And.intro Ho HG))));have hM:=qh (And.intro hs Hp);have Ht:=qh Hq;have HL:=qh hL;have h8:=qh (show Mv B wr W3 from (Mv.of_below bW2).trans (Mv.of_below bW3));have Hu:=qh (show B≤T10 by have h1:=(qs.1 (Hj.out _ hE.out)).1;have h2:=H9.out;omega);have hF:=Hj.out _ (HD.out _ _ hE.out bW2);have HY:=qh hF;have uD:=qh gW2;clear Hr ha hc hd hQ h5 hq Hm Hn Ho Hp HG hs i1 i2 m1 m2 hu g3' gX bW3 sW3 bW2 sW2 Hq hL h0 HV uA hR HO HS ho HR;generalize uE:blk ia=bb at *;generalize uF:off ia=oo at *;subst e;clear uE uF HF;have d0:=Aa hF 0 rfl;have d1:=Aa hF 1 rfl;have d2:=Aa hF 2 rfl;have d3:=Aa hF 3 rfl;have d4:=Aa hF 4 rfl;have d5:=Aa hF 5 rfl;have d6:=Aa hF 6 rfl;have d7:=Aa hF 7 rfl;have d8:=Aa hF 8 rfl;have d9:=Aa hF 9 rfl;have d10:=Aa hF 10 rfl;have d11:=Aa hF 11 rfl;have d12:=Aa hF 12 rfl;have x0:=Aa gW2 0 rfl;have x1:=Aa gW2 1 rfl;have x2:=Aa gW2 2 rfl;have x3:=Aa gW2 3 rfl;have x4:=Aa gW2 4 rfl;have x5:=Aa gW2 5 rfl;clear hF gW2;gi_wp2_with fail;refine ⟨trivial,?_⟩;refine (callsIn_wide.2 HC.out).mono ?_;rintro e V ⟨rfl,h9,hN⟩;have hO:=qh (H6.out _ _ HL.out hN h9);have he:=qh (h8.out.trans (Hk.out _ _ HL.out hN));have HA:=qh (HH.out.kept _ _ _ hJ.out he.out);have HB:=qh (HU.out.trans (Kp.of_mv he.out));have hj:=qh ((Kp.of_mv (Hk.out _ _ HL.out hN)).heap Hu.out Ht.out (by decide) (by decide));have Hv:=qh HK;clear h9 hN HK HC he h8 HL Ht HY uD hJ HU hE d0 d1 d2 d3 d4 d5 d6 d7 d8 d9 d10 d11 d12 x0 x1 x2 x3 x4 x5 g0 g1 g2 g3 g4 g5 hX hw;by_cases hz:v1=0
   ·subst hz
    have Ha:=qh (show itB f Bf kk nn un ma mc ms (its.bars f Bf)=[] from List.length_eq_zero_iff.1 (by have:=Hv.out;omega));gi_wp2_with fail;go_roundw
    case rel=>exact ⟨j+1,r,k,by go_num,by omega,qh hM.out.1,qh (by rw [hK.out,Ha.out];rfl),qh hM.out.2,h6,h7,HA,hO,HB⟩
    case measure=>simp [intOf];omega
   ·have uQ:(v1==0)=false:=by simpa using hz
    have t0:=Aa hj.out 0 rfl;have t1:=Aa hj.out 1 rfl;have t3:=Aa hj.out 3 rfl;have t4:=Aa hj.out 4 rfl;have t5:=Aa hj.out 5 rfl;have cy:=H5.out _ hO.out;have cw:=Hi.out _ hO.out;have cs:=H4.out _ hO.out;by_cases h1:kk=1
    ·subst h1
     have uG:=qh (show L=(pre++k)++(⟨ma,mc,ms,mir⟩:BarR)::(AA mir (r.bars f Bf)++rest) by
      rw [HE.out,hK.out];unfold itB;rw [if_pos rfl];simp [AA])
     obtain ⟨fn',tmps',assign',body',hy,Hw⟩:=HH.out.one uG.out HA.out 9;unfold Nr at hy;have Hx:=qh Hw;clear Hw cw cs t1 t3 t4;gi_wp2_with fail;refine RoundIn.mono (RoundIn.anyDepth rfl Hx.out) ?_;rintro e V2 ⟨t,rfl,h1⟩;clear hy Hx cy t0 t5
     cases t with
     | false =>
      have hh:=qh (N2 h1.out);clear h1;gi_wp2_with fail;go_ret;exact ⟨false,rfl,qh (Or.inr ⟨rfl,hh.out⟩)⟩
     | true =>
      have HQ:=qh (show J (pre++k++[⟨ma,mc,ms,mir⟩]) V2∧Rnd B V V2 from N3 h1.out);clear h1;gi_wp2_with fail;go_roundw
      case rel=>exact ⟨j+1,r,k++[⟨ma,mc,ms,mir⟩],by go_num,by omega,qh hM.out.1,qh (by rw [hK.out];unfold itB;rw [if_pos rfl];simp [AA]),qh hM.out.2,h6,h7,qh (by rw [← List.append_assoc];exact HQ.out.1),qh (H7.out _ _ hO.out HQ.out.2 (HH.out.rd _ _ HQ.out.1)),qh (HB.out.trans (Kp.of_rnd HQ.out.2))⟩
      case measure=>simp [intOf];omega
    ·by_cases h4:kk=4
     ·subst h4
      obtain ⟨Hy,Hz⟩:=uB.out rfl;obtain ⟨j2,p,rfl,hp,H0⟩:=HP.out u Hz;have hU:=qh (show itB f Bf 4 nn un ma mc ms (its.bars f Bf)=Bf (j2:Nat) by unfold itB;rw [if_neg (by decide),if_neg (by decide),if_neg (by decide),if_pos rfl,← Hy]);have hY:=qh (H0 mir (pre++k) (AA mir (r.bars f Bf)++rest) V.drew (by rw [HE.out,hK.out,hU.out];simp) (HH.out.kept _ _ _ HA.out (Mv.of_below (Below.refl _ V).drew)) (HD.out _ _ hO.out (Below.refl _ V).drew));obtain ⟨pc1,uH,uI⟩:=H3.out j2 p hp V hO.out;unfold Ph.val at pc1;have Hb:(j2:Int)<(s.phrases.length:Int):=by omega
      clear Hy Hz H0 hp t1 t4 t5 cy;generalize s.phrases.length=n at *;generalize uJ:blk s.fa=fb at *;generalize uK:off s.fa=fo at *;generalize uL:s.fa=fav at *;subst uH;clear uJ uK uL;gi_wp2_with fail;refine wpIn_wide.2 ?_;refine AM (λw2=>w2=V.drew) 10 (by kernel_rfl) (by kernel_rfl) rfl ?_;intro w2 hS;subst hS;simp only [List.take_succ_cons,List.take_zero,List.drop_succ_cons,List.drop_zero]
      repeat still_step
      refine wpStill_nil ?_;go_wp2_with fail;refine hY.out.mono ?_;rintro e V2 ⟨t,rfl,h1⟩;clear hY t0 t3 cw cs pc1 Hb
      cases t with
      | false =>
       have hh:=qh (N2 h1.out);clear h1;go_wp2_with fail;gi_wp2_with fail;go_ret;exact ⟨false,rfl,qh (Or.inr ⟨rfl,hh.out⟩)⟩
      | true =>
       have HQ:=qh (show J (pre++k++AA mir (Bf (j2:Nat))) V2∧Br V2∧Kp B V.drew V2 from N3 h1.out);clear h1;go_wp2_with fail;gi_wp2_with fail;go_roundw
       case rel=>exact ⟨j+1,r,k++AA mir (Bf (j2:Nat)),by go_num,by omega,qh hM.out.1,qh (by rw [hK.out,hU.out,List.append_assoc]),qh hM.out.2,h6,h7,qh (by rw [← List.append_assoc];exact HQ.out.1),qh HQ.out.2.1,qh (HB.out.trans ((Kp.of_mv (Mv.of_below (Below.refl _ V).drew)).trans HQ.out.2.2))⟩
       case measure=>simp [intOf];omega
     ·by_cases h3:kk=3
      ·subst h3
       have hU:=qh (show AA mir (itB f Bf 3 nn un ma mc ms (its.bars f Bf))=AA (!mir) (its.bars f Bf) by unfold itB;rw [if_neg (by decide),if_neg (by decide),if_pos rfl,LS];simp);have hY:=qh (HI.out its hD.out.2.2.2.2 ja jc (!mir) (pre++k) (AA mir (r.bars f Bf)++rest) V hD.out.2.2.2.1 (λu hu=>HP.out u (Hs.out u hu)) hD.out.2.1 hD.out.2.2.1 hD.out.1 (by rw [HE.out,hK.out,hU.out];simp) HA.out hO.out);clear t1 t3 t5 cy cs;gi_wp2_with fail;refine ⟨trivial,?_⟩;refine (callsIn_wide.2 hY.out).mono ?_;rintro e V2 ⟨t,rfl,h1⟩;clear hY t0 t4 cw
       cases t with
       | false =>
        have hh:=qh (N2 h1.out);clear h1;gi_wp2_with fail;go_ret;exact ⟨false,rfl,qh (Or.inr ⟨rfl,hh.out⟩)⟩
       | true =>
        have HQ:=qh (show J (pre++k++AA (!mir) (its.bars f Bf)) V2∧Br V2∧Kp B V V2 from N3 h1.out);clear h1;gi_wp2_with fail;go_roundw
        case rel=>exact ⟨j+1,r,k++AA (!mir) (its.bars f Bf),by go_num,by omega,qh hM.out.1,qh (by rw [hK.out,hU.out,List.append_assoc]),qh hM.out.2,h6,h7,qh (by rw [← List.append_assoc];exact HQ.out.1),qh HQ.out.2.1,qh (HB.out.trans HQ.out.2.2)⟩
        case measure=>simp [intOf];omega
      ·by_cases h2:kk=2
       ·subst h2
        obtain ⟨uR,uS⟩:=uC.out rfl;obtain ⟨m,rfl⟩:∃m:Nat,nn=m:=⟨nn.toNat,by omega⟩;have hU:=qh (show AA mir (itB f Bf 2 (m:Nat) un ma mc ms (its.bars f Bf))=Cy m (AA mir (its.bars f Bf)) by unfold itB;rw [if_neg (by decide),if_pos rfl,O0,Int.toNat_natCast]);clear t3 t5 cy cs cw t4;gi_wp2_with fail;clear t0 t1;gi_loopw [60] (λiv wr=>∃i:Nat,iv=int i64 i∧i≤m∧Hid (J (pre++(k++Cy i (AA mir (its.bars f Bf)))) wr)∧Hid (Br wr)∧Hid (Kp B V wr)) (λiv _=>m+1-(intOf iv).toNat)
        case atStart=>exact ⟨0,rfl,Nat.zero_le _,qh (by simpa [Cy] using HA.out),hO,qh (Kp.refl _ _)⟩
        case round =>
         obtain ⟨i,rfl,uT,H1,Hc,Hd⟩:=hrel;by_cases HG:i<m
         ·have uM:(i:Int)<(m:Int):=by omega
          have hY:=qh (HI.out its hD.out.2.2.2.2 ja jc mir (pre++(k++Cy i (AA mir (its.bars f Bf)))) (Cy (m-i-1) (AA mir (its.bars f Bf))++(AA mir (r.bars f Bf)++rest)) wr hD.out.2.2.2.1 (λu hu=>HP.out u (Hs.out u hu)) hD.out.2.1 hD.out.2.2.1 hD.out.1 (by rw [HE.out,hK.out,hU.out,RH HG];simp) H1.out Hc.out);have cw:=Hi.out _ Hc.out;have t4:=Aa (Hd.out.heap Hu.out hj.out (by decide) (by decide)) 4 rfl;gi_wp2_with fail;refine ⟨trivial,?_⟩;refine (callsIn_wide.2 hY.out).mono ?_;rintro e V2 ⟨t,rfl,h1⟩;clear hY t4 cw
          cases t with
          | false =>
           have hh:=qh (N2 h1.out);clear h1;gi_wp2_with fail;go_ret;exact ⟨false,rfl,qh (Or.inr ⟨rfl,hh.out⟩)⟩
          | true =>
           have HQ:=qh (show J (pre++(k++Cy i (AA mir (its.bars f Bf)))++AA mir (its.bars f Bf)) V2∧Br V2∧Kp B wr V2 from N3 h1.out);clear h1;gi_wp2_with fail;go_roundw
           case rel=>exact ⟨i+1,by go_num,by omega,qh (by rw [O1];simpa [List.append_assoc] using HQ.out.1),qh HQ.out.2.1,qh (Hd.out.trans HQ.out.2.2)⟩
           case measure=>simp [intOf];omega
         ·have uM:¬(i:Int)<(m:Int):=by omega
          obtain rfl:i=m:=by omega
          gi_wp2_with fail;go_roundw
          case rel=>exact ⟨j+1,r,k++Cy i (AA mir (its.bars f Bf)),by go_num,by omega,qh hM.out.1,qh (by rw [hK.out,hU.out,List.append_assoc]),qh hM.out.2,h6,h7,H1,Hc,qh (HB.out.trans Hd.out)⟩
          case measure=>simp [intOf];omega
       ·exfalso
        have hv:=Hv.out;unfold itB at hv;rw [if_neg h1,if_neg h2,if_neg h3,if_neg h4] at hv;simp at hv;exact hz hv
end
end
section
open Go Go.RowKit
def OfC(s:Ls)(f:Nm→Int)(w0:World)(G:Nat)(len:Int→Int)(P:List Int→Prop)(T:Lt):Prop :=
 ∀(ia:Option Addr) (ic:Nat) (W:World),T.strip.exB=true→P (T.strip.uses f)→(T.len=0∨ia=some ⟨blk ia,off ia,none⟩)→T.len≤maxLen→ItW f G W T (blk ia) (off ia)→TabW w0 s.phrases.length G len W→Calls Tryz.prog 65 #[.agg (D5 s G),.slice ia T.len ic] W (Lq w0 s.phrases.length G len (T.strip.sumF f len 0) W)
theorem KN(s:Ls)(f:Nm→Int)(w0:World)(G:Nat)(len:Int→Int)(hA:s.At w0):∀(z:Nat) (T:Lt),T.size≤z→OfC s f w0 G len (λus=>(∀u∈us,0≤len u∧len u≤4097)∧QA s w0 G (D5 s G) s.phrases.length len us) T:=by
 intro z
 induction z with
 | zero=>exact λT hs ia ic W hx hP=>MO s f w0 G len hA T (λT' hB=>absurd hB (by omega)) ia ic W hx hP.1 hP.2
 | succ z ih=>exact λT hs ia ic W hx hP=>MO s f w0 G len hA T (λT' hB ia ic W hx h1 h2=>ih T' (by omega) ia ic W hx ⟨h1,h2⟩) ia ic W hx hP.1 hP.2
theorem Tt(s:Ls)(f:Nm→Int)(w0:World)(G:Nat)(len:Int→Int)(rk:Nat→Nat)(hA:s.At w0)(hU:NumAt f w0 (Ar s.phrases))(h:LenOk s.phrases f rk len):∀(z j:Nat) (p:Ph),rk j≤z→s.phrases[j]?=some p→∀V,TabW w0 s.phrases.length G len V→Calls Tryz.prog 65 #[.agg (D5 s G),.slice p.ia p.its.len p.ic] V (Lq w0 s.phrases.length G len (len j) V):=by
 have key:∀(z j:Nat) (p:Ph),rk j≤z→s.phrases[j]?=some p→QA s w0 G (D5 s G) s.phrases.length len (p.its.strip.uses f)→∀V,TabW w0 s.phrases.length G len V→Calls Tryz.prog 65 #[.agg (D5 s G),.slice p.ia p.its.len p.ic] V (Lq w0 s.phrases.length G len (len j) V):=λz j p hz hp hP V hV=>by
  obtain ⟨i1,i2,i3⟩:=Di hA.phrases hp;have:=KN s f w0 G len hA _ p.its (qn _) p.ia p.ic V (h.ex j p hp) ⟨λu hu=>by obtain ⟨i,rfl,hi,_⟩:=h.down j p hp u hu;exact h.bound i hi,hP⟩ i1 i2 (ItW.old i3 (λx hx=>hU x (CE hp hx)) hV.sc hV.hg) hV;rw [← h.fix j p hp] at this;exact this
 intro z
 induction z with
 | zero=>exact λj p hz hp=>key 0 j p hz hp (λu hu=>by obtain ⟨i,rfl,hi,hr⟩:=h.down j p hp u hu;omega)
 | succ z ih => exact fun j p hz hp => key _ j p hz hp (fun u hu => by
   obtain ⟨i,rfl,hi,hr⟩:=h.down j p hp u hu
   exact ⟨i,_,rfl,qg hi,λV hV=>ih i _ (by omega) (qg hi) V hV⟩)
theorem Tr(s:Ls)(f:Nm→Int)(w0:World)(G:Nat)(len:Int→Int)(rk:Nat→Nat)(hA:s.At w0)(hU:NumAt f w0 (Ar s.phrases))(h:LenOk s.phrases f rk len)(T:Lt):OfC s f w0 G len (λus=>∀u∈us,∃(j:Nat) (p:Ph),u=j∧s.phrases[j]?=some p) T:=λia ic W hx hP =>
 KN s f w0 G len hA _ T (qn _) ia ic W hx ⟨λu hu=>by obtain ⟨j,p,rfl,hp⟩:=hP u hu;exact h.bound j (ql.1 hp).1,λu hu=>by
  obtain ⟨j,p,rfl,hp⟩:=hP u hu
  exact ⟨j,p,rfl,hp,Tt s f w0 G len rk hA hU h _ j p (qn _) hp⟩⟩
section
variable (s:Ls) (f:Nm→Int) (w0:World) (len:Int→Int) (rk:Nat→Nat) (Bf:Int→List BarR) (B G TB YB WB SB l:Nat) (J:List BarR→World→Prop) (Jx:World→Prop) (L:List BarR)
theorem Mt(hA:s.At w0)(hU:NumAt f w0 (Ar s.phrases))(hb:BarOk s f rk len Bf)(hB:B≤TB∧B≤SB∧B≤YB∧B≤WB∧B≤G)(hD:w0.heap.size≤B)(hH:WkH B l w0 J Jx L):∀(z:Nat) (T:Lt),T.size≤z→WkC f w0 (BrW w0 s.phrases.length (D5 s G) s.cells len G TB SB YB WB l) B TB YB WB SB J Jx L Bf (QC s (BrW w0 s.phrases.length (D5 s G) s.cells len G TB SB YB WB l) B TB YB WB SB J Jx L Bf) T:=by
 have st:=λT hI=>Ow s f w0 len Bf B G TB YB WB SB l (D5 s G) J Jx L hA (Jh s G) _ rfl hB hD hH (λT ia ic V hx hP hf hl hi ht=>Tr s f w0 G len rk hA hU hb.lenOk T ia ic V hx hP hf hl hi ht) (λj p hp=>hb.num j (ql.1 hp).1) T hI
 intro z
 induction z with
 | zero=>exact λT hs=>st T (λT' hC=>absurd hC (by omega))
 | succ z ih=>exact λT hs=>st T (λT' hC=>ih T' (by omega))
theorem Qt(hA:s.At w0)(hU:NumAt f w0 (Ar s.phrases))(hb:BarOk s f rk len Bf)(hB:B≤TB∧B≤SB∧B≤YB∧B≤WB∧B≤G)(hC:w0.heap.size≤B)(hH:WkH B l w0 J Jx L):∀(z j:Nat) (p:Ph),rk j≤z→s.phrases[j]?=some p→∀(mir:Bool) (pre rest:List BarR) (V:World),L=pre++(AA mir (Bf j)++rest)→J pre V→BrW w0 s.phrases.length (D5 s G) s.cells len G TB SB YB WB l V →
  Calls Tryz.prog 64 #[.slice p.ia p.its.len p.ic,.bool mir,.pointer (some ⟨TB,0,none⟩),.pointer (some ⟨YB,0,none⟩),.pointer (some ⟨WB,0,none⟩),.pointer (some ⟨SB,0,none⟩)] V (WkP (BrW w0 s.phrases.length (D5 s G) s.cells len G TB SB YB WB l) B J Jx pre (AA mir (Bf j)) V):=by
 have key:∀(j:Nat) (p:Ph),s.phrases[j]?=some p→QC s (BrW w0 s.phrases.length (D5 s G) s.cells len G TB SB YB WB l) B TB YB WB SB J Jx L Bf (p.its.strip.uses f)→∀(mir:Bool) (pre rest:List BarR) (V:World),L=pre++(AA mir (Bf j)++rest)→J pre V→BrW w0 s.phrases.length (D5 s G) s.cells len G TB SB YB WB l V →
   Calls Tryz.prog 64 #[.slice p.ia p.its.len p.ic,.bool mir,.pointer (some ⟨TB,0,none⟩),.pointer (some ⟨YB,0,none⟩),.pointer (some ⟨WB,0,none⟩),.pointer (some ⟨SB,0,none⟩)] V (WkP (BrW w0 s.phrases.length (D5 s G) s.cells len G TB SB YB WB l) B J Jx pre (AA mir (Bf j)) V):=λj p hp hP mir pre rest V hL hJ hV=>by
  obtain ⟨i1,i2,i3⟩:=Di hA.phrases hp;rw [hb.fix j p hp] at hL ⊢;exact Mt s f w0 len rk Bf B G TB YB WB SB l J Jx L hA hU hb hB hC hH _ p.its (qn _) p.ia p.ic mir pre rest V (hb.lenOk.ex j p hp) hP i1 i2 ⟨i3,λx hx=>hU x (CE hp hx)⟩ hL hJ hV
 intro z
 induction z with
 | zero=>exact λj p hz hp=>key j p hp (λu hu=>by obtain ⟨i,rfl,hi,hr⟩:=hb.lenOk.down j p hp u hu;omega)
 | succ z ih => exact fun j p hz hp => key j p hp (fun u hu => by
   obtain ⟨i,rfl,hi,hr⟩:=hb.lenOk.down j p hp u hu
   exact ⟨i,_,rfl,qg hi,λmir pre rest V=>ih i _ (by omega) (qg hi) mir pre rest V⟩)
end
end
section
open Go Go.RowKit Go.Shelf
structure Th3(SB PB MB:Nat)(sc:Array Value)(ph:Nat)(mir:Bool)(W:World):Prop where
 sb:W.heap[SB]?=some (.cells sc 30 (0,0))
 pb:W.heap[PB]?=some (.cells #[int i64 ph] 3 (0,0))
 mb:W.heap[MB]?=some (.cells #[.bool mir] 4 (0,0))
theorem Th3.below{SB PB MB:Nat}{sc:Array Value}{ph:Nat}{mir:Bool}{W W':World}(h:Th3 SB PB MB sc ph mir W)(hb:Below W.heap.size W W'):Th3 SB PB MB sc ph mir W':=⟨Ah hb h.sb,Ah hb h.pb,Ah hb h.mb⟩
theorem Th3.row{SB PB MB TB:Nat}{sc cs:Array Value}{ph:Nat}{mir:Bool}{W:World}(h:Th3 SB PB MB sc ph mir W)(ht:W.heap[TB]?=some (.cells cs 125 (0,0)))(ds:Array Value):Th3 SB PB MB sc ph mir (W.setRow TB ds) :=
 ⟨(setRow_other W TB SB ds (B6 h.sb ht (by decide))).trans h.sb,(setRow_other W TB PB ds (B6 h.pb ht (by decide))).trans h.pb,(setRow_other W TB MB ds (B6 h.mb ht (by decide))).trans h.mb⟩
structure BarsAt(w0:World)(s:Ls)(len:Int→Int)(G TB SB PB MB:Nat)(ph:Nat)(mir:Bool)(W:World):Prop where
 tab:TabW w0 s.phrases.length G len W
 tb:W.heap[TB]?=some (.cells (D5 s G) 125 (0,0))
 sb:W.heap[SB]?=some (.cells s.cells 30 (0,0))
 pb:W.heap[PB]?=some (.cells #[int i64 ph] 3 (0,0))
 mb:W.heap[MB]?=some (.cells #[.bool mir] 4 (0,0))
theorem BarsAt.below{w0:World}{s:Ls}{len:Int→Int}{G TB SB PB MB ph:Nat}{mir:Bool}{W W':World}(h:BarsAt w0 s len G TB SB PB MB ph mir W)(hb:Below W.heap.size W W'):BarsAt w0 s len G TB SB PB MB ph mir W' :=
 ⟨h.tab.below hb,Ah hb h.tb,Ah hb h.sb,Ah hb h.pb,Ah hb h.mb⟩
section
attribute [local go_sem] Oper.semAt_some
theorem OH(s:Ls)(f:Nm→Int)(w0:World)(len:Int→Int)(rk:Nat→Nat)(Bf:Int→List BarR)(B G TB SB PB MB ph n:Nat)(p:Ph)(mir:Bool)(w:World)(hA:s.At w0)(hU:NumAt f w0 (Ar s.phrases))(hb:BarOk s f rk len Bf)(hp:s.phrases[ph]?=some p)
  (hB:B≤TB∧B≤SB∧B≤G) (hM:B≤w.heap.size) (hG:w0.heap.size≤B) (hw:BarsAt w0 s len G TB SB PB MB ph mir w) :
  OD Fence.wide n Tryz.prog 63 #[.pointer (some ⟨TB,0,none⟩),.pointer (some ⟨SB,0,none⟩),.pointer (some ⟨PB,0,none⟩),.pointer (some ⟨MB,0,none⟩)] Nr (AA mir (Bf ph)) B (λW=>Below w0.heap.size w0 W) w:=by
 intro l J Jx W hD hk hI hy hJ;refine callsIn_wide.2 ?_;have hx:=hw.below hD;obtain ⟨W1,x1,g1,b1,s1⟩:=DU W (.func (.yield l) #[] #[]) 126;obtain ⟨W2,x2,g2,b2,s2⟩:=DU W1 .nilFunc 127;obtain ⟨YB,hN⟩:∃YB,W.heap.size=YB:=⟨_,rfl⟩;obtain ⟨WB,hO⟩:∃WB,W1.heap.size=WB:=⟨_,rfl⟩;rw [hN] at g1;rw [hO] at g2;obtain ⟨W3,x3,g3,o3,b3,s3⟩:=Bp g2 (.func (.func 64) #[] #[.pointer (some ⟨TB,0,none⟩),.pointer (some ⟨YB,0,none⟩),.pointer (some ⟨WB,0,none⟩),.pointer (some ⟨SB,0,none⟩)]);have hE:Below W.heap.size W W3:=b3 _ _ (b1.trans (b2.mono (by omega))) (by omega);have hC:=hx.below hE;have hK:BrW w0 s.phrases.length (D5 s G) s.cells len G TB SB YB WB l W3:=⟨hC.tab,hC.tb,hC.sb,(o3 _ (by omega)).trans (Ah b2 g1),g3⟩;have hL:=hk _ _ _ hJ (Mv.of_below hE);have hF:=hD.size;have hH:WkH B l w0 J Jx (AA mir (Bf ph)):=⟨hk,hI,hy⟩;have C:=λV (h1:J [] V) (h2:BrW w0 s.phrases.length (D5 s G) s.cells len G TB SB YB WB l V)=>Qt s f w0 len rk Bf B G TB YB WB SB l J Jx (AA mir (Bf ph)) hA hU hb ⟨hB.1,hB.2.1,by omega,by omega,hB.2.2⟩ hG hH _ ph p (qn _) hp mir [] [] V (by simp) h1 h2
 have HC:=qh (C W3.drew (hk _ _ _ hL (Mv.of_below (Below.refl _ W3).drew)) (hK.below (Below.refl _ W3).drew));have cw:W3.cell? ⟨WB,0,none⟩=some (.func (.func 64) #[] #[.pointer (some ⟨TB,0,none⟩),.pointer (some ⟨YB,0,none⟩),.pointer (some ⟨WB,0,none⟩),.pointer (some ⟨SB,0,none⟩)]):=Aa g3 0 rfl;have cs:W3.cell? ⟨SB,10,none⟩=some (.slice s.fa s.phrases.length s.fc):=Aa hC.sb 10 rfl;have cp:W3.cell? ⟨PB,0,none⟩=some (int i64 ph):=Aa hC.pb 0 rfl;have cm:W3.cell? ⟨MB,0,none⟩=some (.bool mir):=Aa hC.mb 0 rfl;have pc1:=(Cs (Bd hC.tab.sc hA.phrases) hp).2;unfold Ph.val at pc1;have hP:=hA.pform.resolve_left (λe=>by rw [e] at hp;cases hp);have hV:(ph:Int)<(s.phrases.length:Int):=by have:=(ql.1 hp).1;omega
 have y2:W2.cell? ⟨WB,0,none⟩=some .nilFunc:=Aa g2 0 rfl;have f2:W2.frozen? ⟨WB,0,none⟩=false:=by simp [World.frozen?,g2]
 have st:=Ej W2 WB (.func 64) #[] #[.pointer (some ⟨TB,0,none⟩),.pointer (some ⟨YB,0,none⟩),.pointer (some ⟨WB,0,none⟩),.pointer (some ⟨SB,0,none⟩)] _ y2 f2;rw [x3] at st;clear hA hU hb hp hB hM hG hw hD hk hI hy hJ hx g1 b1 s1 g2 b2 s2 g3 o3 b3 s3 hE hC hK hL hF hH C x3 y2 f2;generalize s.phrases.length=n at *;generalize hQ:blk s.fa=fb at *;generalize hR:off s.fa=fo at *;generalize hT:s.fa=fav at *;subst hP;clear hQ hR hT;simp only [List.push_toArray,List.append_toArray,List.nil_append,List.cons_append];go_enter Tryz.func63,Tryz.ntmps63;go_wp2_with fail;refine AM (λw2=>w2=W3.drew) 8 (by kernel_rfl) (by kernel_rfl) rfl ?_;intro w2 hS;subst hS;simp only [List.take_succ_cons,List.take_zero,List.drop_succ_cons,List.drop_zero]
 repeat still_step
 refine wpStill_nil ?_;go_wp2_with fail;refine HC.out.mono ?_;rintro e V2 ⟨t,rfl,h1⟩;go_wp2_with fail;go_end0;refine ⟨⟨_,rfl⟩,?_⟩;rcases h1.out with ⟨_,q1,_,_⟩|⟨_,q1⟩
 ·exact Or.inl (by simpa using q1)
 ·exact Or.inr q1
end
theorem OG(s:Ls)(w0:World)(len:Int→Int)(ph:Nat)(mir:Bool)(w:World)(hA:s.At w0)(hh:Below w0.heap.size w0 w)(hn:s.phrases.length≤1000) :
  Calls Tryz.prog 32 #[s.val,int i64 ph,.bool mir] w λe w'=>∃G TB SB PB MB,e=.returned (.func (.func 63) #[] #[.pointer (some ⟨TB,0,none⟩),.pointer (some ⟨SB,0,none⟩),.pointer (some ⟨PB,0,none⟩),.pointer (some ⟨MB,0,none⟩)])∧BarsAt w0 s len G TB SB PB MB ph mir w'∧Below w.heap.size w w'∧w.heap.size≤TB∧w.heap.size≤SB∧w.heap.size≤G:=by
 obtain ⟨V1,e1,g1,b1,s1⟩:=Af w s.cells 30;obtain ⟨V2,e2,g2,b2,s2⟩:=Af V1 #[int i64 (ph:Nat)] 3;obtain ⟨V3,e3,g3,b3,s3⟩:=Af V2 #[.bool mir] 4;obtain ⟨SB,hV⟩:∃SB,w.heap.size=SB:=⟨_,rfl⟩;have hi:V3.heap[SB]?=some (.cells s.cells 30 (0,0)):=Ah b3 (Ah b2 (hV▸g1));have hI:=qh hi;have HP:=qh (Ah b3 g2);have HM:=qh g3;have hj:=qh (Ag b1 (Ag b2 b3));have HZ:=qh (show s.cells.size=12 from rfl);have hZ:=qh (show s.cells[10]?=some (.slice s.fa s.phrases.length s.fc) from rfl);have ha:=qh hh;clear g1 b1 s1 g2 b2 s2 g3 b3 s3 hi hA hh;unfold Ls.cells at e1 hI;have hv:s.val=.agg s.cells:=rfl;rw [hv];unfold Ls.cells;obtain ⟨n,hc⟩:∃n,s.phrases.length=n:=⟨_,rfl⟩;have hm:Hid (s.phrases.length=n):=hc;rw [hc] at hn e1 hI ⊢;clear hc;have hq:(n:Int)≤1000:=by omega
 go_enter Tryz.func32,Tryz.ntmps32;go_wp2_with fail
 try simp only [hV]
 obtain ⟨PB,hd⟩:∃PB,V1.heap.size=PB:=⟨_,rfl⟩;obtain ⟨MB,he⟩:∃MB,V2.heap.size=MB:=⟨_,rfl⟩;rw [hd] at HP;rw [he] at HM
 try simp only [hd]
 try simp only [he]
 have hf:=qh hV;have hQ:=qh (show Th3 SB PB MB #[sv s.name,int i64 s.wd,int i64 s.dp,int i64 s.bars,int i64 s.t0,int i64 s.t1,.slice s.ra s.roles.length s.rc,.slice s.ta s.tempos.length s.tc,.slice s.ua s.pauses.length s.uc,.slice s.sa s.spans.length s.sc,.slice s.fa n s.fc,.slice s.da s.dances.length s.dc] ph mir V3.drew from ⟨hI.out,HP.out,HM.out⟩);have HB:=qh (show Below w.heap.size w V3.drew from hj.out.drew);clear hV hd he hI hj HP HM e1 e2 e3 hZ HZ hv;refine wp_region_held (S:=Th3 SB PB MB #[sv s.name,int i64 s.wd,int i64 s.dp,int i64 s.bars,int i64 s.t0,int i64 s.t1,.slice s.ra s.roles.length s.rc,.slice s.ta s.tempos.length s.tc,.slice s.ua s.pauses.length s.uc,.slice s.sa s.spans.length s.sc,.slice s.fa n s.fc,.slice s.da s.dances.length s.dc] ph mir) (by kernel_rfl) ?_;change wpAnyH _ _ _ _ _ _ _ _ V3.drew;generalize V3.drew=V0 at *;refine tq 0 _ (.agg #[sv s.name,int i64 s.wd,int i64 s.dp,int i64 s.bars,int i64 s.t0,int i64 s.t1,.slice s.ra s.roles.length s.rc,.slice s.ta s.tempos.length s.tc,.slice s.ua s.pauses.length s.uc,.slice s.sa s.spans.length s.sc,.slice s.fa n s.fc,.slice s.da s.dances.length s.dc]) rfl (by kernel_rfl) (λ_ _ _ h=>h) (Cv rfl 30 _ rfl SB rfl 30 #[sv s.name,int i64 s.wd,int i64 s.dp,int i64 s.bars,int i64 s.t0,int i64 s.t1,.slice s.ra s.roles.length s.rc,.slice s.ta s.tempos.length s.tc,.slice s.ua s.pauses.length s.uc,.slice s.sa s.spans.length s.sc,.slice s.fa n s.fc,.slice s.da s.dances.length s.dc] (0,0) _ (λV hb=>hb.sb) Tryz.underlying30 rfl (by rw [show Array.size _=12 from rfl];kernel_rfl)) hQ.out ?_
 try simp only [Act.put,qz]
 refine tkS (i:=2) (oi:=_) (v:=.pointer (some ⟨SB,10,none⟩)) rfl (by kernel_rfl) (λ_ _ _ h=>h) (λV hb=>by go_simp) hQ.out ?_
 try simp only [Act.put,qz]
 refine tkS (i:=3) (oi:=_) (v:=.slice s.fa n s.fc) rfl (by kernel_rfl) (λ_ _ _ h=>h) (λV hb=>by have q0:=Aa hb.sb 10 rfl;go_simp) hQ.out ?_
 try simp only [Act.put,qz]
 refine tkS (i:=4) (oi:=_) (v:=int i64 (n:Nat)) rfl (by kernel_rfl) (λ_ _ _ h=>h) (λV hb=>by go_simp) hQ.out ?_
 try simp only [Act.put,qz]
 refine wpAnyH_ready (rs:=[1,7]) (by kernel_rfl) (by simp) ?_;refine AllReadyH.cons (o:=_) rfl (λK1 hK=>?_) (AllReadyH.cons (o:=_) rfl (λK1 hK=>?_) AllReadyH.nil);go_simp;obtain ⟨U1,hS,gO,bO,sO⟩:=Af V0 #[int i64 (-1)] 3;rw [hS];obtain ⟨OB,hP⟩:∃OB,V0.heap.size=OB:=⟨_,rfl⟩
 try simp only [hP]
 rw [hP] at gO;have hF:=qh (hQ.out.below bO);have hR:=qh (Ag HB.out bO);have HO:=qh gO;clear gO hS hP sO;refine hK.out _ _ hF.out (λ_=>?_);clear hK K1
 try simp only [Act.put,qz]
 refine wpAnyH_ready (rs:=[5,7]) (by kernel_rfl) (by simp) ?_;refine AllReadyH.cons (o:=_) rfl (λK1 hK=>?_) (AllReadyH.cons (o:=_) rfl (λK1 hK=>?_) AllReadyH.nil);go_simp;refine (EV (-1) n (by omega) OB U1 (qs.1 HO.out).1 (Aa HO.out 0 rfl)).mono ?_;rintro e U9 ⟨G,rfl,hT,hL,hG⟩;have hB:=qh (hF.out.below hG);have hM:=qh (Ag hR.out hG);have hW:=qh (show w.heap.size≤G by have:=hR.out.size;omega);have hN:=qh hL;clear hT hL hG;refine hK.out _ _ hB.out (λ_=>?_);clear hK K1
 try simp only [Act.put,qz]
 refine tkS (i:=6) (oi:=_) (v:=.agg #[sv s.name,int i64 s.wd,int i64 s.dp,int i64 s.bars,int i64 s.t0,int i64 s.t1,.slice s.ra s.roles.length s.rc,.slice s.ta s.tempos.length s.tc,.slice s.ua s.pauses.length s.uc,.slice s.sa s.spans.length s.sc,.slice s.fa n s.fc,.slice s.da s.dances.length s.dc,.slice (some ⟨G,0,none⟩) n n]) rfl (by kernel_rfl) (λ_ _ _ h=>h) (λV hb=>by go_simp) hB.out ?_
 try simp only [Act.put,qz]
 refine tr 7 _ (by kernel_rfl) rfl λK1 hK=>?_
 go_simp;obtain ⟨U3,hO,gT,bT,sT⟩:=Af U9 #[.string ⟨#[]⟩,int i64 0,int i64 0,int i64 0,int i64 0,int i64 0,.slice none 0 0,.slice none 0 0,.slice none 0 0,.slice none 0 0,.slice none 0 0,.slice none 0 0,.slice none 0 0] 125;rw [hO];obtain ⟨TB,hH⟩:∃TB,U9.heap.size=TB:=⟨_,rfl⟩
 try simp only [hH]
 rw [hH] at gT;have hX:=qh (show w.heap.size≤TB by have:=hM.out.size;omega);have hC:=qh (hB.out.below bT);have hY:=qh (Ag hM.out bT);have hU:=qh (show BI _ G _ from Ah bT hN.out);clear hN;have hN:=hU;clear hU;have hE:=qh gT;clear gT hO hH sT bT;refine hK.out _ _ hC.out (λ_=>?_);clear hK K1
 try simp only [Act.put,qz]
 rotate_left
 go_simp;obtain ⟨U3,hO,gT,bT,sT⟩:=Af U1 #[.string ⟨#[]⟩,int i64 0,int i64 0,int i64 0,int i64 0,int i64 0,.slice none 0 0,.slice none 0 0,.slice none 0 0,.slice none 0 0,.slice none 0 0,.slice none 0 0,.slice none 0 0] 125;rw [hO];obtain ⟨TB,hH⟩:∃TB,U1.heap.size=TB:=⟨_,rfl⟩
 try simp only [hH]
 rw [hH] at gT;have hX:=qh (show w.heap.size≤TB by have:=hR.out.size;omega);have hB:=qh (hF.out.below bT);have hM:=qh (Ag hR.out bT);have hk:=qh (Ah bT HO.out);clear HO;have HO:=hk;clear hk;have hE:=qh gT;clear gT hO hH sT bT;refine hK.out _ _ hB.out (λ_=>?_);clear hK K1
 try simp only [Act.put,qz]
 refine tr 5 _ (by kernel_rfl) rfl λK1 hK=>?_
 go_simp;refine (EV (-1) n (by omega) OB U3 (qs.1 HO.out).1 (Aa HO.out 0 rfl)).mono ?_;rintro e U9 ⟨G,rfl,hT,hL,hG⟩;have hC:=qh (hB.out.below hG);have hY:=qh (Ag hM.out hG);have hW:=qh (show w.heap.size≤G by have:=hM.out.size;omega);have hN:=qh hL;have hD:=qh (Ah hG hE.out);clear hE;have hE:=hD;clear hD;clear hT hL hG;refine hK.out _ _ hC.out (λ_=>?_);clear hK K1
 try simp only [Act.put,qz]
 refine tkS (i:=6) (oi:=_) (v:=.agg #[sv s.name,int i64 s.wd,int i64 s.dp,int i64 s.bars,int i64 s.t0,int i64 s.t1,.slice s.ra s.roles.length s.rc,.slice s.ta s.tempos.length s.tc,.slice s.ua s.pauses.length s.uc,.slice s.sa s.spans.length s.sc,.slice s.fa n s.fc,.slice s.da s.dances.length s.dc,.slice (some ⟨G,0,none⟩) n n]) rfl (by kernel_rfl) (λ_ _ _ h=>h) (λV hb=>by go_simp) hC.out ?_
 try simp only [Act.put,qz]
 rotate_left
 go_simp;obtain ⟨U3,hO,gT,bT,sT⟩:=Af V0 #[.string ⟨#[]⟩,int i64 0,int i64 0,int i64 0,int i64 0,int i64 0,.slice none 0 0,.slice none 0 0,.slice none 0 0,.slice none 0 0,.slice none 0 0,.slice none 0 0,.slice none 0 0] 125;rw [hO];obtain ⟨TB,hH⟩:∃TB,V0.heap.size=TB:=⟨_,rfl⟩
 try simp only [hH]
 rw [hH] at gT;have hX:=qh (show w.heap.size≤TB by have:=HB.out.size;omega);have hF:=qh (hQ.out.below bT);have hR:=qh (Ag HB.out bT);have hE:=qh gT;clear gT hO hH sT bT;refine hK.out _ _ hF.out (λ_=>?_);clear hK K1
 try simp only [Act.put,qz]
 refine tr 1 _ (by kernel_rfl) rfl λK1 hK=>?_
 go_simp;obtain ⟨U1,hS,gO,bO,sO⟩:=Af U3 #[int i64 (-1)] 3;rw [hS];obtain ⟨OB,hP⟩:∃OB,U3.heap.size=OB:=⟨_,rfl⟩
 try simp only [hP]
 rw [hP] at gO;have hB:=qh (hF.out.below bO);have hM:=qh (Ag hR.out bO);have HO:=qh gO;have hD:=qh (Ah bO hE.out);clear hE;have hE:=hD;clear hD;clear gO hS hP sO;refine hK.out _ _ hB.out (λ_=>?_);clear hK K1
 try simp only [Act.put,qz]
 refine tr 5 _ (by kernel_rfl) rfl λK1 hK=>?_
 go_simp;refine (EV (-1) n (by omega) OB U1 (qs.1 HO.out).1 (Aa HO.out 0 rfl)).mono ?_;rintro e U9 ⟨G,rfl,hT,hL,hG⟩;have hC:=qh (hB.out.below hG);have hY:=qh (Ag hM.out hG);have hW:=qh (show w.heap.size≤G by have:=hM.out.size;omega);have hN:=qh hL;have hD:=qh (Ah hG hE.out);clear hE;have hE:=hD;clear hD;clear hT hL hG;refine hK.out _ _ hC.out (λ_=>?_);clear hK K1
 try simp only [Act.put,qz]
 refine tkS (i:=6) (oi:=_) (v:=.agg #[sv s.name,int i64 s.wd,int i64 s.dp,int i64 s.bars,int i64 s.t0,int i64 s.t1,.slice s.ra s.roles.length s.rc,.slice s.ta s.tempos.length s.tc,.slice s.ua s.pauses.length s.uc,.slice s.sa s.spans.length s.sc,.slice s.fa n s.fc,.slice s.da s.dances.length s.dc,.slice (some ⟨G,0,none⟩) n n]) rfl (by kernel_rfl) (λ_ _ _ h=>h) (λV hb=>by go_simp) hC.out ?_
 try simp only [Act.put,qz]
 all_goals
  refine tr 8 _ (by kernel_rfl) rfl λK1 hK=>?_
  rw [if_pos (by kernel_rfl)];refine wp_store_row 125 _ _ rfl TB #[sv s.name,int i64 s.wd,int i64 s.dp,int i64 s.bars,int i64 s.t0,int i64 s.t1,.slice s.ra s.roles.length s.rc,.slice s.ta s.tempos.length s.tc,.slice s.ua s.pauses.length s.uc,.slice s.sa s.spans.length s.sc,.slice s.fa n s.fc,.slice s.da s.dances.length s.dc,.slice (some ⟨G,0,none⟩) n n] rfl rfl 125 _ hE.out (by kernel_rfl) rfl (by simp [Value.oneCell']) ?_;have hJ:=qh (hC.out.row hE.out #[sv s.name,int i64 s.wd,int i64 s.dp,int i64 s.bars,int i64 s.t0,int i64 s.t1,.slice s.ra s.roles.length s.rc,.slice s.ta s.tempos.length s.tc,.slice s.ua s.pauses.length s.uc,.slice s.sa s.spans.length s.sc,.slice s.fa n s.fc,.slice s.da s.dances.length s.dc,.slice (some ⟨G,0,none⟩) n n]);refine hK.out _ _ hJ.out (λ_=>?_);clear hK K1
  try simp only [Act.put,qz]
  refine wpAnyH_done (by kernel_rfl) ?_ _;have ho:=qh (setRow_heap _ _ _ #[sv s.name,int i64 s.wd,int i64 s.dp,int i64 s.bars,int i64 s.t0,int i64 s.t1,.slice s.ra s.roles.length s.rc,.slice s.ta s.tempos.length s.tc,.slice s.ua s.pauses.length s.uc,.slice s.sa s.spans.length s.sc,.slice s.fa n s.fc,.slice s.da s.dances.length s.dc,.slice (some ⟨G,0,none⟩) n n] _ _ hE.out);have hp:=qh ((setRow_other _ TB G #[sv s.name,int i64 s.wd,int i64 s.dp,int i64 s.bars,int i64 s.t0,int i64 s.t1,.slice s.ra s.roles.length s.rc,.slice s.ta s.tempos.length s.tc,.slice s.ua s.pauses.length s.uc,.slice s.sa s.spans.length s.sc,.slice s.fa n s.fc,.slice s.da s.dances.length s.dc,.slice (some ⟨G,0,none⟩) n n] (B6 hN.out hE.out (by decide))).trans hN.out);have hl:=qh (below_setRow hY.out hX.out #[sv s.name,int i64 s.wd,int i64 s.dp,int i64 s.bars,int i64 s.t0,int i64 s.t1,.slice s.ra s.roles.length s.rc,.slice s.ta s.tempos.length s.tc,.slice s.ua s.pauses.length s.uc,.slice s.sa s.spans.length s.sc,.slice s.fa n s.fc,.slice s.da s.dances.length s.dc,.slice (some ⟨G,0,none⟩) n n]);have hg:=hm;clear hN hE hY;go_wp2_with fail;go_ret;refine ⟨G,TB,SB,PB,MB,rfl,⟨⟨ha.out.trans (hl.out.mono ha.out.size),Nat.le_trans ha.out.size hW.out,_,hp.out,by rw [hg.out];simp,λi v hv=>Or.inl ?_⟩,?_,?_,hJ.out.pb,hJ.out.mb⟩,hl.out,hX.out,Nat.le_of_eq hf.out,hW.out⟩
  ·rw [List.getElem?_replicate] at hv
   split at hv
   ·exact (Option.some.inj hv).symm
   ·cases hv
  ·have:=ho.out
   unfold D5 Ls.cells;rw [hg.out];exact this
  ·have:=hJ.out.sb
   unfold Ls.cells;rw [hg.out];exact this
end
end Go.Proofs.YtbkemlgfdklpfaaGreatDoor
