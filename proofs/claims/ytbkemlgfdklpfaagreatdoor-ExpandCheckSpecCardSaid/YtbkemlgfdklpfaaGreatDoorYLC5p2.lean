/- The walk of the statement: part 2. -/
import Derived.Test.YtbkemlgfdklpfaaGreatDoorV40
import Derived.Test.YtbkemlgfdklpfaaGreatDoorV34
import Derived.Test.YtbkemlgfdklpfaaGreatDoorV41
import Derived.BigQuiet
import Derived.BigCall
import Derived.BigGuard
import Derived.Test.YtbkemlgfdklpfaaGreatDoorV4
set_option linter.unusedVariables false
set_option linter.unusedSimpArgs false
set_option maxRecDepth 100000
set_option maxHeartbeats 16000000
namespace Go.Proofs.YtbkemlgfdklpfaaGreatDoor
open Go.Value (int)
open Go.IntKind (i64)
section
open Go Go.RowKit Go.Shelf Go.Deep
def VU(x y:Sgn):Bool:=decide (x.fn*y.fd<y.fn*x.fd)||(decide (x.fn*y.fd=y.fn*x.fd)&&decide (x.id<y.id))
theorem Wj{x y:Sgn}:VU x y=true↔Sz x y:=by simp [VU,Sz]
theorem Wm{x y:Sgn}(h:Sz x y):¬Sz y x:=by
 unfold Sz at *;omega
structure PutAt(x:Sgn)(l:List Sgn)(k:Nat):Prop where
 le:k≤l.length
 aft:∀j y,k≤j→l[j]?=some y→VU x y=true
 fore:∀y,0<k→l[k-1]?=some y→VU x y=false
def VV(x:Sgn)(l:List Sgn)(k:Nat):List Sgn:=l.take k++x::l.drop k
theorem Xi{x:Sgn}{l:List Sgn}{k:Nat}(z:Sgn):z∈VV x l k↔z=x∨z∈l:=by
 unfold VV;have:z∈l↔z∈l.take k∨z∈l.drop k:=by rw [← List.mem_append,List.take_append_drop]
 rw [this,List.mem_append,List.mem_cons]
 constructor
 ·rintro (h|h|h)
  ·exact Or.inr (Or.inl h)
  ·exact Or.inl h
  ·exact Or.inr (Or.inr h)
 ·rintro (h|h|h)
  ·exact Or.inr (Or.inl h)
  ·exact Or.inl h
  ·exact Or.inr (Or.inr h)
theorem WC{x:Sgn}{l:List Sgn}{k:Nat}(h:PutAt x l k)(hl:l.Pairwise Sz)(hid:∀y∈l,y.id<x.id)(hx:Bh x.fn x.fd=true)(hr:∀y∈l,Bh y.fn y.fd=true):(VV x l k).Pairwise Sz:=by
 have hs:=hl;rw [← List.take_append_drop k l] at hs;obtain ⟨h1,h2,h3⟩:=List.pairwise_append.1 hs;refine List.pairwise_append.2 ⟨h1,List.pairwise_cons.2 ⟨λy hy=>?_,h2⟩,λa ha b hb=>?_⟩
 ·obtain ⟨j,hj⟩:=List.getElem?_of_mem hy
  rw [List.getElem?_drop] at hj;exact Wj.1 (h.aft _ y (by omega) hj)
 rcases List.mem_cons.1 hb with rfl|hb
 rotate_left
 ·exact h3 a ha b hb
 have hA:a∈l:=List.mem_of_mem_take ha;obtain ⟨j,hj⟩:=List.getElem?_of_mem ha
 have hD:j<k:=by
  have:=(ql.1 hj).1;rw [List.length_take] at this;omega
 rw [List.getElem?_take_of_lt hD] at hj;obtain ⟨m,hm⟩:∃m,l[k-1]?=some m:=⟨_,qg (by have:=h.le;omega)⟩;have hE:=List.mem_of_getElem? hm;have hf:=h.fore m (by omega) hm
 have hB:¬b.fn*m.fd<m.fn*b.fd:=λq=>by
  have:=Wj.2 (Or.inl q);rw [hf] at this;cases this
 have hJ:¬b.fn*a.fd<a.fn*b.fd:=by
  by_cases e:j=k-1
  ·subst e
   rw [hj] at hm;cases hm;exact hB
  ·obtain ⟨hF,hG⟩:=ql.1 hj
   obtain ⟨hH,hI⟩:=ql.1 hm;have hC:=List.pairwise_iff_getElem.1 hl j (k-1) hF hH (by omega);rw [hG,hI] at hC;have h4:¬m.fn*a.fd<a.fn*m.fd:=λq=>Wm hC (Or.inl q)
   have:=ER.tr (x:=⟨a,hr a hA⟩) (y:=⟨m,hr m hE⟩) (z:=⟨b,hx⟩) (by simpa [CC] using h4) (by simpa [CC] using hB);simpa [CC] using this
 have:=hid a hA;unfold Sz;omega
theorem VP{α:Type}{R:α→α→Prop}(hR:∀x y,R x y→¬R y x):∀{l1 l2:List α},l1.Pairwise R→l2.Pairwise R→(∀x,x∈l1↔x∈l2)→l1=l2
 | [],[],_,_,_=>rfl
 | [],b::t,_,_,h=>by have:=(h b).2 (by simp);cases this
 | a::t,[],_,_,h=>by have:=(h a).1 (by simp);cases this
 | a::t1,b::t2,h1,h2,h=>by
  obtain ⟨p1,q1⟩:=List.pairwise_cons.1 h1;obtain ⟨p2,q2⟩:=List.pairwise_cons.1 h2
  have e:a=b:=by
   rcases List.mem_cons.1 ((h a).1 (by simp)) with e|ha
   ·exact e
   rcases List.mem_cons.1 ((h b).2 (by simp)) with e|hb
   ·exact e.symm
   exact absurd (p1 b hb) (hR _ _ (p2 a ha))
  subst e
  congr 1
  refine VP hR q1 q2 λx=>?_
  have hx:=h x;rw [List.mem_cons,List.mem_cons] at hx
  constructor
  ·intro hm
   rcases hx.1 (Or.inr hm) with rfl|hA
   ·exact absurd (p1 x hm) (hR _ _ (p1 x hm))
   ·exact hA
  ·intro hm
   rcases hx.2 (Or.inr hm) with rfl|hA
   ·exact absurd (p2 x hm) (hR _ _ (p2 x hm))
   ·exact hA
structure PutOk(L:List Sgn)(l:List Sgn):Prop where
 mem:∀x,x∈l↔x∈L
 srt:l.Pairwise Sz
 len:l.length=L.length
theorem PutOk.put{L l:List Sgn}{x:Sgn}{k:Nat}(h:PutOk L l)(hp:PutAt x l k)(hid:∀y∈L,y.id<x.id)(hx:Bh x.fn x.fd=true)(hr:∀y∈L,Bh y.fn y.fd=true):PutOk (L++[x]) (VV x l k):=by
 refine ⟨λz=>?_,WC hp h.srt (λy hy=>hid y ((h.mem y).1 hy)) hx λy hy=>hr y ((h.mem y).1 hy),?_⟩
 ·rw [Xi,h.mem,List.mem_append,List.mem_singleton]
  exact Or.comm
 ·unfold VV
  have:=hp.le;simp only [List.length_append,List.length_cons,List.length_take,List.length_drop,List.length_nil];have:=h.len;omega
end
section
open Go Go.RowKit Go.Deep
theorem Wh{l:List Tmp}{i:Nat}{t:Tmp}{x:Int}(hs:Gu l)(ht:l[i]?=some t)(h1:t.bar≤x)(h2:∀t',l[i+1]?=some t'→x<t'.bar):Do l x=i+1:=by
 have a:=(Lm (bar:=x) hs ht).1 h1;have hB:=N4 l x;by_cases e:i+1<l.length
 ·have hA:=qg e
  have b:=Lm (bar:=x) hs hA;have c:=h2 _ hA;have:¬i+1<Do l x:=λq=>by have:=b.2 q;omega
  omega
 ·omega
def VE(bars:Int)(l:List Tmp)(i:Nat):Int:=match l[i+1]? with
 | some t=>t.bar-1
 | none=>bars-1
def VW(bars:Int)(l:List Tmp)(i:Nat):Bool:=inB (Ev l (l[i]!.bar)) 1 65536&&inB (Ev l (VE bars l i)) 1 65536
theorem VT{l:List Tmp}:∀n,Dk l n=true↔∀k:Nat,k<n→inB (Ev l k) 1 65536=true
 | 0=>by simp [Dk]
 | n+1=>by
  unfold Dk;rw [Bool.and_eq_true,VT n]
  constructor
  ·rintro ⟨h1,h2⟩ k hk
   by_cases e:k=n
   ·rw [e];exact h2
   ·exact h1 k (by omega)
  ·intro h
   exact ⟨λk hk=>h k (by omega),h n (by omega)⟩
theorem VZ{l:List Tmp}(hs:Gu l){i j:Nat}{a b:Tmp}(hi:l[i]?=some a)(hj:l[j]?=some b)(h:i<j):a.bar<b.bar:=by
 obtain ⟨h1,e1⟩:=ql.1 hi;obtain ⟨h2,e2⟩:=ql.1 hj;have:=List.pairwise_iff_getElem.1 hs i j h1 h2 h
 rwa [e1,e2] at this
theorem VK{l:List Tmp}{i:Nat}{t:Tmp}{x:Int}(ht:l[i]?=some t)(hu:Do l x=i+1):Ev l x=t.ticks+(x-t.bar)*t.step:=by
 unfold Ev;simp only [hu,Nat.add_sub_cancel];rw [show l[i]! = t by simp [ht]]
theorem VO{bars:Int}{l:List Tmp}{i:Nat}{t:Tmp}(hb:DJ bars (-1) l=true)(ht:l[i]?=some t):t.bar≤VE bars l i∧VE bars l i≤bars-1:=by
 obtain ⟨hs,hA⟩:=Gl hb;have h1:=hA t (List.mem_of_getElem? ht);unfold VE
 cases h:l[i+1]? with
 | none=>simp only;omega
 | some t' =>
  have h2:=VZ hs ht h (by omega);have h3:=hA t' (List.mem_of_getElem? h);simp only;omega
theorem Xa{bars:Int}{l:List Tmp}{t0:Tmp}(hb:DJ bars (-1) l=true)(h0:l[0]?=some t0)(hz:t0.bar=0):Dk l bars.toNat=true↔∀i,i<l.length→VW bars l i=true:=by
 obtain ⟨hs,hD⟩:=Gl hb;rw [VT]
 constructor
 ·intro h i hi
  have ht:=qg hi;have h1:=hD _ (List.mem_of_getElem? ht);have h2:=VO hb ht;unfold VW;rw [Bool.and_eq_true];have e:l[i]! = l[i]:=by simp [hi]
  rw [e];refine ⟨?_,?_⟩
  ·have:=h l[i].bar.toNat (by omega)
   rwa [show ((l[i].bar.toNat:Nat):Int)=l[i].bar by omega] at this
  ·have:=h (VE bars l i).toNat (by omega)
   rwa [show (((VE bars l i).toNat:Nat):Int)=VE bars l i by omega] at this
 ·intro h k hk
  have hp:0<Do l (k:Int):=Qr h0 (by omega);have hH:=N4 l (k:Int);obtain ⟨i,hi⟩:∃i,Do l (k:Int)=i+1:=⟨Do l (k:Int)-1,by omega⟩;have hE:i<l.length:=by omega
  have ht:=qg hE;have e:l[i]! = l[i]:=by simp [hE]
  have hA:=h i hE;unfold VW at hA;rw [Bool.and_eq_true,e,AL,AL] at hA;have h1:l[i].bar≤(k:Int):=(Lm hs ht).2 (by omega)
  have hG:∀t',l[i+1]?=some t'→(k:Int)<t'.bar:=λt' hB=>by
   have:=Lm (bar:=(k:Int)) hs hB;by_cases q:t'.bar≤(k:Int)
   ·have:=this.1 q;omega
   ·omega
  have h2:(k:Int)≤VE bars l i:=by
   unfold VE
   cases q:l[i+1]? with
   | none=>simp only;omega
   | some t'=>have:=hG t' q;simp only;omega
  have hC:=VO hb ht;have u2:Do l l[i].bar=i+1:=Wh hs ht (Int.le_refl _) λt' hB=>VZ hs ht hB (by omega)
  have u3:Do l (VE bars l i)=i+1:=Wh hs ht hC.1 λt' hB=>by unfold VE;rw [hB];simp only;omega
  rw [VK ht u2,VK ht u3] at hA;rw [AL,VK ht hi];obtain ⟨⟨a1,a2⟩,a3,a4⟩:=hA;rw [Int.sub_self,Int.zero_mul,Int.add_zero] at a1 a2;generalize l[i].bar=b at *;generalize l[i].ticks=T at *;generalize l[i].step=s at *;generalize VE bars l i=L at *;by_cases hF:0≤s
  ·have m1:(k-b)*s≤(L-b)*s:=Int.mul_le_mul_of_nonneg_right (by omega) hF
   have m2:0≤(k-b)*s:=Int.mul_nonneg (by omega) hF;omega
  ·have m1:(k-b)*(-s)≤(L-b)*(-s):=Int.mul_le_mul_of_nonneg_right (by omega) (by omega)
   have m2:0≤(k-b)*(-s):=Int.mul_nonneg (by omega) (by omega);rw [Int.mul_neg,Int.mul_neg] at m1;rw [Int.mul_neg] at m2;omega
theorem Wo{a b:Nat}(h:0<b):Nat.gcd b (a % b)=Nat.gcd a b:=by
 rw [Nat.gcd_comm a b,Nat.gcd_rec b a,Nat.gcd_comm]
theorem Xe(a b:Nat)(ha:a≤1099511627776)(hb:b≤1099511627776)(w:World):Calls Tryz.prog 164 #[int i64 a,int i64 b] w λe w'=>e=.returned (int i64 (Nat.gcd a b))∧w'=w:=by
 go_enter Tryz.func164,Tryz.ntmps164;go_wp2_with fail;go_loopw [0,1] (λav bv wr=>∃x y:Nat,av=int i64 x∧bv=int i64 y∧x≤1099511627776∧y≤1099511627776∧Hid (Nat.gcd x y=Nat.gcd a b)∧wr=w) (λ_ bv _=>(intOf bv).toNat)
 case atStart=>exact ⟨a,b,rfl,rfl,ha,hb,qh rfl,rfl⟩
 case round =>
  obtain ⟨x,y,rfl,rfl,hx,hy,hG,rfl⟩:=hrel;by_cases h0:y=0
  ·subst h0
   have HG:=qh (show x=Nat.gcd a b by rw [← hG.out,Nat.gcd_zero_right]);clear hG;go_wp2_with fail;go_ret;exact ⟨by rw [← HG.out];rfl,rfl⟩
  ·have h1:(0:Int)<(y:Int):=by omega
   have hm:Int.tmod (x:Int) (y:Int)=((x % y:Nat):Int):=rfl;have hB:x % y<y:=Nat.mod_lt _ (by omega);have hA:Nat.gcd y (x % y)=Nat.gcd a b:=by rw [Wo (by omega),hG.out]
   have HG:=qh hA;clear hG hA;generalize x % y=z at *;go_wp2_with fail;go_roundw
   case rel=>exact ⟨y,z,by go_num,by go_num,hy,by omega,HG,trivial⟩
   case measure=>simp [intOf]<;>omega
theorem Ws(a b:Nat)(ha:a≤1099511627776)(hb:b≤1099511627776)(w:World):Calls Tryz.prog 106 #[int i64 a,int i64 b] w λe w'=>e=.returned (int i64 (Nat.gcd a b))∧w'=w:=by
 go_enter Tryz.func106,Tryz.ntmps106;go_wp2_with fail;go_loopw [0,1] (λav bv wr=>∃x y:Nat,av=int i64 x∧bv=int i64 y∧x≤1099511627776∧y≤1099511627776∧Hid (Nat.gcd x y=Nat.gcd a b)∧wr=w) (λ_ bv _=>(intOf bv).toNat)
 case atStart=>exact ⟨a,b,rfl,rfl,ha,hb,qh rfl,rfl⟩
 case round =>
  obtain ⟨x,y,rfl,rfl,hx,hy,hG,rfl⟩:=hrel;by_cases h0:y=0
  ·subst h0
   have HG:=qh (show x=Nat.gcd a b by rw [← hG.out,Nat.gcd_zero_right]);clear hG;go_wp2_with fail;go_ret;exact ⟨by rw [← HG.out];rfl,rfl⟩
  ·have h1:(0:Int)<(y:Int):=by omega
   have hm:Int.tmod (x:Int) (y:Int)=((x % y:Nat):Int):=rfl;have hB:x % y<y:=Nat.mod_lt _ (by omega);have hA:Nat.gcd y (x % y)=Nat.gcd a b:=by rw [Wo (by omega),hG.out]
   have HG:=qh hA;clear hG hA;generalize x % y=z at *;go_wp2_with fail;go_roundw
   case rel=>exact ⟨y,z,by go_num,by go_num,hy,by omega,HG,trivial⟩
   case measure=>simp [intOf]<;>omega
theorem X8(n:Int)(h1:-1099511627776≤n)(h2:n≤1099511627776)(w:World):Calls Tryz.prog 165 #[int i64 n] w λe w'=>e=.returned (int i64 (n.natAbs:Nat))∧w'=w:=by
 by_cases h0:n<0
 ·have h3:((n.natAbs:Nat):Int)=-n:=by omega
  go_enter Tryz.func165,Tryz.ntmps165;go_wp2_with fail;go_ret
  first|exact ⟨rfl,rfl⟩|exact ⟨by rw [h3];rfl,rfl⟩
 ·have h3:((n.natAbs:Nat):Int)=n:=by omega
  go_enter Tryz.func165,Tryz.ntmps165;go_wp2_with fail;go_ret
  first|exact ⟨rfl,rfl⟩|exact ⟨by rw [h3];rfl,rfl⟩
theorem Wr(n:Int)(h1:-1099511627776≤n)(h2:n≤1099511627776)(w:World):Calls Tryz.prog 107 #[int i64 n] w λe w'=>e=.returned (int i64 (n.natAbs:Nat))∧w'=w:=by
 by_cases h0:n<0
 ·have h3:((n.natAbs:Nat):Int)=-n:=by omega
  have h4:max n (-n)=-n:=by omega
  rw [h3];clear h3;go_enter Tryz.func107,Tryz.ntmps107;go_wp2_with fail;go_ret;exact ⟨rfl,rfl⟩
 ·have h3:((n.natAbs:Nat):Int)=n:=by omega
  have h4:max n (-n)=n:=by omega
  rw [h3];clear h3;go_enter Tryz.func107,Tryz.ntmps107;go_wp2_with fail;go_ret;exact ⟨rfl,rfl⟩
theorem VC{B:Nat}{a w:World}(h:Below B a w)(n:Nat):Below B a (w.drewN n):=⟨h.os,h.tape,h.output,h.size,h.block⟩
theorem VI(n d:Int)(w:World):Calls Tryz.prog 144 #[.agg #[int i64 n,int i64 d]] w λe w'=>e=.returned (.bool (Bh n d))∧Below w.heap.size w w':=by
 have g0:=heap_alloc_new w (.cells #[int i64 n,int i64 d] 52);have b0:Below w.heap.size w (w.alloc (.cells #[int i64 n,int i64 d] 52)):=(Below.refl _ w).alloc (qn _) _;obtain ⟨r,hr⟩:∃r,Bh n d=r:=⟨_,rfl⟩;have HR:=qh hr;rw [hr];clear hr
 have no:Bh n d=false→∀W:World,Below w.heap.size w W→(.returned (.bool false):Ending)=.returned (.bool r)∧Below w.heap.size w W:=λh W hb=>⟨by rw [← HR.out,h],hb⟩
 have NO:=qh no;clear no;go_enter Tryz.func144,Tryz.ntmps144;go_wp2_with fail;generalize w.alloc (.cells #[int i64 n,int i64 d] 52)=w0 at *;have c0:w0.cell? ⟨w.heap.size,0,none⟩=some (int i64 n):=Aa g0 0 rfl;have c1:w0.cell? ⟨w.heap.size,1,none⟩=some (int i64 d):=Aa g0 1 rfl;have HB:=qh b0;clear g0 b0;by_cases h1:1≤d
 case neg =>
  have HX:=qh (λq=>NO.out (by unfold Bh inB;simp [h1]) _ (VC HB.out q));go_quiet (fail);go_wp2_with fail;go_ret;exact HX.out _
 by_cases h2:d≤1073741824
 case neg =>
  have HX:=qh (λq=>NO.out (by unfold Bh inB;simp [h2]) _ (VC HB.out q));go_quiet (fail);go_wp2_with fail;go_ret;exact HX.out _
 by_cases h3:-1073741824≤n
 case neg =>
  have HX:=qh (λq=>NO.out (by unfold Bh inB;simp [h3]) _ (VC HB.out q));go_quiet (fail);go_wp2_with fail;go_ret;exact HX.out _
 by_cases h4:n≤1073741824
 case neg =>
  have HX:=qh (λq=>NO.out (by unfold Bh inB;simp [h4]) _ (VC HB.out q));go_quiet (fail);go_wp2_with fail;go_ret;exact HX.out _
 have k1:∀W:World,Calls Tryz.prog 165 #[int i64 n] W λe w'=>e=.returned (int i64 (n.natAbs:Nat))∧w'=W:=λW=>X8 n (by omega) (by omega) W
 have k2:∀W:World,Calls Tryz.prog 164 #[int i64 (n.natAbs:Nat),int i64 d] W λe w'=>e=.returned (int i64 (Nat.gcd n.natAbs d.natAbs))∧w'=W:=λW=>by
  have:=Xe n.natAbs d.natAbs (by omega) (by omega) W
  rwa [show ((d.natAbs:Nat):Int)=d by omega] at this
 have hr:r=decide (Nat.gcd n.natAbs d.natAbs=1):=by rw [← HR.out];unfold Bh inB;simp [h1,h2,h3,h4]
 have hA:(((Nat.gcd n.natAbs d.natAbs:Nat):Int)==1)=r:=by rw [hr,Bool.eq_iff_iff,beq_iff_eq,decide_eq_true_eq];omega
 have K1:=qh k1;have K2:=qh k2;have HG:=qh hA;clear k1 k2 hr hA NO HR;obtain ⟨g,hg⟩:∃g,Nat.gcd n.natAbs d.natAbs=g:=⟨_,rfl⟩;obtain ⟨na,hB⟩:∃x,n.natAbs=x:=⟨_,rfl⟩;rw [hg] at K2 HG;rw [hB] at K1 K2;clear hg hB;go_quiet (first|(go_at_call 165;refine Calls.quiet_of_same (K1.out _))|(go_at_call 164;refine Calls.quiet_of_same (K2.out _)));go_wp2_with fail;go_ret;exact ⟨by rw [← HG.out];rfl,VC HB.out _⟩
theorem VM(n d:Int)(w:World):Calls Tryz.prog 116 #[.agg #[int i64 n,int i64 d]] w λe w'=>e=.returned (int i64 (if Bh n d then 0 else 120))∧Below w.heap.size w w':=by
 have g0:=heap_alloc_new w (.cells #[int i64 n,int i64 d] 52);have b0:Below w.heap.size w (w.alloc (.cells #[int i64 n,int i64 d] 52)):=(Below.refl _ w).alloc (qn _) _;have hA:=λW=>VI n d W
 generalize Bh n d=r at hA ⊢;have hB:=qh hA;clear hA;cases r
 all_goals
  go_enter Tryz.func116,Tryz.ntmps116;go_wp2_with fail;generalize w.alloc (.cells #[int i64 n,int i64 d] 52)=w0 at *;have HV:=qh (hB.out w0);have HB:=qh b0;clear b0 hB;go_wp2_with fail;refine HV.out.mono ?_;rintro e w1 ⟨rfl,hb⟩;have hC:=qh (HB.out.trans (hb.mono HB.out.size));clear HV hb;go_wp2_with fail;go_ret;exact ⟨rfl,hC.out⟩
theorem WS(n d n2 d2:Int)(h1:Bh n d=true)(h2:Bh n2 d2=true)(w:World):Calls Tryz.prog 145 #[.agg #[int i64 n,int i64 d],.agg #[int i64 n2,int i64 d2]] w λe w'=>e=.returned (.bool true)∧Below w.heap.size w w':=by
 have g0:=heap_alloc_new w (.cells #[int i64 n,int i64 d] 52);have b0:Below w.heap.size w (w.alloc (.cells #[int i64 n,int i64 d] 52)):=(Below.refl _ w).alloc (qn _) _;have g1:=heap_alloc_new (w.alloc (.cells #[int i64 n,int i64 d] 52)) (.cells #[int i64 n2,int i64 d2] 52);have b1:=b0.alloc b0.size (.cells #[int i64 n2,int i64 d2] 52);have hB:w.heap.size<(w.alloc (.cells #[int i64 n,int i64 d] 52)).heap.size:=by simp
 have k0:=(Below.heap_alloc _ (.cells #[int i64 n2,int i64 d2] 52) w.heap.size hB).trans g0;have hD:(w.alloc (.cells #[int i64 n,int i64 d] 52)).heap.size=w.heap.size+1:=by simp
 rw [hD] at g1;go_enter Tryz.func145,Tryz.ntmps145;go_wp2_with fail;generalize (w.alloc (.cells #[int i64 n,int i64 d] 52)).alloc (.cells #[int i64 n2,int i64 d2] 52)=w0 at *;have HV:=qh (VI n d w0);rw [h1] at HV;have HB:=qh b1;have hG:=qh g1;have hE:w.heap.size+1<w0.heap.size:=(qs.1 g1).1;clear b0 b1 g0 hB;go_wp2_with fail;refine HV.out.mono ?_;rintro e w1 ⟨rfl,hb⟩;have hC:=qh (HB.out.trans (hb.mono HB.out.size));have g2:=(hb.block _ hE).trans g1;have c2:w1.cell? ⟨w.heap.size+1,0,none⟩=some (int i64 n2):=Aa g2 0 rfl;have c3:w1.cell? ⟨w.heap.size+1,1,none⟩=some (int i64 d2):=Aa g2 1 rfl;clear g2;have hA:=qh (VI n2 d2 w1);rw [h2] at hA;clear HV hb g1 k0;go_wp2_with fail;refine hA.out.mono ?_;rintro e w2 ⟨rfl,hb⟩;have hF:=qh (hC.out.trans (hb.mono hC.out.size));clear hA hb;go_wp2_with fail;go_ret;exact ⟨rfl,hF.out⟩
theorem Xl{a b:Int}(h1:-1073741824≤a)(h2:a≤1073741824)(h3:0≤b)(h4:b≤1073741824):-1152921504606846976≤a*b∧a*b≤1152921504606846976:=by
 have x1:a*b≤1073741824*b:=Int.mul_le_mul_of_nonneg_right h2 h3;have x2:-1073741824*b≤a*b:=Int.mul_le_mul_of_nonneg_right h1 h3;omega
theorem VY(n d n2 d2:Int)(h1:Bh n d=true)(h2:Bh n2 d2=true)(w:World):Calls Tryz.prog 146 #[.agg #[int i64 n,int i64 d],.agg #[int i64 n2,int i64 d2]] w λe w'=>e=.returned (.bool (decide (n*d2<n2*d)))∧Below w.heap.size w w':=by
 unfold Bh at h1 h2;simp only [Bool.and_eq_true,AL] at h1 h2;have m1:=Xl h1.1.2.1 h1.1.2.2 (show 0≤d2 by omega) h2.1.1.2;have m2:=Xl h2.1.2.1 h2.1.2.2 (show 0≤d by omega) h1.1.1.2;have g0:=heap_alloc_new w (.cells #[int i64 n,int i64 d] 52);have b0:Below w.heap.size w (w.alloc (.cells #[int i64 n,int i64 d] 52)):=(Below.refl _ w).alloc (qn _) _;have g1:=heap_alloc_new (w.alloc (.cells #[int i64 n,int i64 d] 52)) (.cells #[int i64 n2,int i64 d2] 52);have b1:=b0.alloc b0.size (.cells #[int i64 n2,int i64 d2] 52);have hA:w.heap.size<(w.alloc (.cells #[int i64 n,int i64 d] 52)).heap.size:=by simp
 have k0:=(Below.heap_alloc _ (.cells #[int i64 n2,int i64 d2] 52) w.heap.size hA).trans g0;have hB:(w.alloc (.cells #[int i64 n,int i64 d] 52)).heap.size=w.heap.size+1:=by simp
 rw [hB] at g1;go_enter Tryz.func146,Tryz.ntmps146;go_wp2_with fail;generalize (w.alloc (.cells #[int i64 n,int i64 d] 52)).alloc (.cells #[int i64 n2,int i64 d2] 52)=w0 at *;have HB:=qh b1;have c0:w0.cell? ⟨w.heap.size,0,none⟩=some (int i64 n):=Aa k0 0 rfl;have c1:w0.cell? ⟨w.heap.size,1,none⟩=some (int i64 d):=Aa k0 1 rfl;have c2:w0.cell? ⟨w.heap.size+1,0,none⟩=some (int i64 n2):=Aa g1 0 rfl;have c3:w0.cell? ⟨w.heap.size+1,1,none⟩=some (int i64 d2):=Aa g1 1 rfl;clear b0 b1 g0 g1 k0 hA hB h1 h2;generalize n*d2=x at *;generalize n2*d=y at *;go_wp2_with fail;go_ret;exact ⟨rfl,HB.out⟩
theorem VR(n d n2 d2:Int)(h1:Bh n d=true)(h2:Bh n2 d2=true)(w:World):Calls Tryz.prog 117 #[.agg #[int i64 n,int i64 d],.agg #[int i64 n2,int i64 d2]] w λe w'=>e=.returned (.tuple #[int i64 (CQ (n*d2) (n2*d)),int i64 0])∧Below w.heap.size w w':=by
 obtain ⟨r,hr⟩:∃r,CQ (n*d2) (n2*d)=r:=⟨_,rfl⟩;rw [hr];have hA:Hid (r=if n*d2<n2*d then -1 else if n2*d<n*d2 then 1 else 0):=qh (by rw [← hr];rfl);clear hr;have g0:=heap_alloc_new w (.cells #[int i64 n,int i64 d] 52);have b0:Below w.heap.size w (w.alloc (.cells #[int i64 n,int i64 d] 52)):=(Below.refl _ w).alloc (qn _) _;have g1:=heap_alloc_new (w.alloc (.cells #[int i64 n,int i64 d] 52)) (.cells #[int i64 n2,int i64 d2] 52);have b1:=b0.alloc b0.size (.cells #[int i64 n2,int i64 d2] 52);have hH:w.heap.size<(w.alloc (.cells #[int i64 n,int i64 d] 52)).heap.size:=by simp
 have k0:=(Below.heap_alloc _ (.cells #[int i64 n2,int i64 d2] 52) w.heap.size hH).trans g0;have hI:(w.alloc (.cells #[int i64 n,int i64 d] 52)).heap.size=w.heap.size+1:=by simp
 rw [hI] at g1;go_enter Tryz.func117,Tryz.ntmps117;go_wp2_with fail;generalize (w.alloc (.cells #[int i64 n,int i64 d] 52)).alloc (.cells #[int i64 n2,int i64 d2] 52)=w0 at *;have hJ:w.heap.size+1<w0.heap.size:=(qs.1 g1).1
 have CC:=qh (λ(W:World) (hb:Below w0.heap.size w0 W)=>(show W.cell? ⟨w.heap.size,0,none⟩=some (int i64 n)∧W.cell? ⟨w.heap.size,1,none⟩=some (int i64 d)∧W.cell? ⟨w.heap.size+1,0,none⟩=some (int i64 n2)∧W.cell? ⟨w.heap.size+1,1,none⟩=some (int i64 d2) from
  ⟨Aa ((hb.block _ (by omega)).trans k0) 0 rfl,Aa ((hb.block _ (by omega)).trans k0) 1 rfl,Aa ((hb.block _ hJ).trans g1) 0 rfl,Aa ((hb.block _ hJ).trans g1) 1 rfl⟩))
 have HV:=qh (WS n d n2 d2 h1 h2 w0);have hK:=qh (λW=>VY n d n2 d2 h1 h2 W);have hL:=qh (λW=>VY n2 d2 n d h2 h1 W);have HB:=qh b1;obtain ⟨c0,c1,c2,c3⟩:=CC.out w0 (Below.refl _ _);clear b0 b1 g0 g1 k0 hH hI h1 h2;go_wp2_with fail;refine HV.out.mono ?_;rintro e w1 ⟨rfl,hC⟩;have hD:=qh (HB.out.trans (hC.mono HB.out.size));clear c0 c1 c2 c3;obtain ⟨c0,c1,c2,c3⟩:=CC.out w1 hC;have hE:=qh hC;have HL:=qh (hK.out w1);clear HV hC HB hK;go_wp2_with fail;refine HL.out.mono ?_;rintro e w2 ⟨rfl,hF⟩;have hG:=qh (hD.out.trans (hF.mono hD.out.size));have hB:=hE.out.trans (hF.mono hE.out.size);clear c0 c1 c2 c3;obtain ⟨c0,c1,c2,c3⟩:=CC.out w2 hB;have HM:=qh (hL.out w2);clear HL hF hB hD hE hL CC;generalize hx:n*d2=x at *;generalize hy:n2*d=y at *;by_cases q1:x<y
 ·have e1:decide (x<y)=true:=decide_eq_true q1
  rw [if_pos q1] at hA;clear q1 HM;go_wp2_with fail;go_ret2;exact ⟨by rw [hA.out];rfl,hG.out⟩
 ·have e1:decide (x<y)=false:=decide_eq_false q1
  rw [if_neg q1] at hA;clear q1;go_wp2_with fail;refine HM.out.mono ?_;rintro e w3 ⟨rfl,hM⟩;have hN:=qh (hG.out.trans (hM.mono hG.out.size));clear HM hM;by_cases q2:y<x
  ·have e2:decide (y<x)=true:=decide_eq_true q2
   rw [if_pos q2] at hA;clear q2;go_wp2_with fail;go_ret2;exact ⟨by rw [hA.out];rfl,hN.out⟩
  ·have e2:decide (y<x)=false:=decide_eq_false q2
   rw [if_neg q2] at hA;clear q2;go_wp2_with fail;go_ret2;exact ⟨by rw [hA.out];rfl,hN.out⟩
theorem Wg{a:Int}(h1:-32768≤a)(h2:a≤32768):0≤a*a∧a*a≤1073741824:=by
 have e:((a.natAbs*a.natAbs:Nat):Int)=a*a:=Int.natAbs_mul_self;have hn:a.natAbs≤32768:=by omega
 have h3:a.natAbs*a.natAbs≤1073741824:=Nat.le_trans (Nat.mul_le_mul hn hn) (by decide);rw [← e];obtain ⟨k,hk⟩:∃k,a.natAbs*a.natAbs=k:=⟨_,rfl⟩;rw [hk] at h3 ⊢;omega
theorem Wf(a b c:Int)(w:World):Calls Tryz.prog 86 #[.agg #[int i64 a,int i64 b,int i64 c]] w λe w'=>e=.returned (int i64 (if EC a b c then 0 else 140))∧Below w.heap.size w w':=by
 have g0:=heap_alloc_new w (.cells #[int i64 a,int i64 b,int i64 c] 34);have b0:Below w.heap.size w (w.alloc (.cells #[int i64 a,int i64 b,int i64 c] 34)):=(Below.refl _ w).alloc (qn _) _;obtain ⟨r,hr⟩:∃r,(if EC a b c then (0:Int) else 140)=r:=⟨_,rfl⟩;have HR:=qh hr;rw [hr];clear hr
 have no:EC a b c=false→∀W:World,Below w.heap.size w W→(.returned (int i64 140):Ending)=.returned (int i64 r)∧Below w.heap.size w W:=λh W hb=>⟨by rw [← HR.out,h];rfl,hb⟩
 have NO:=qh no;clear no;go_enter Tryz.func86,Tryz.ntmps86;go_wp2_with fail
 any_goals
  go_ret;refine NO.out ?_ _ b0;rw [Bool.eq_false_iff];intro q;unfold EC inB at q;simp only [Bool.and_eq_true,decide_eq_true_eq] at q;omega
 generalize w.alloc (.cells #[int i64 a,int i64 b,int i64 c] 34)=w0 at *;generalize Value.bool (decide (c<1)||decide (32768<c)||decide (a < -c)||decide (c<a)||decide (b < -c)||decide (c<b))=vv6;generalize Value.bool (decide (c<1)||decide (32768<c)||decide (a < -c)||decide (c<a)||decide (b < -c))=vv5;generalize Value.bool (decide (c<1)||decide (32768<c)||decide (a < -c)||decide (c<a))=vv4;generalize Value.bool (decide (c<1)||decide (32768<c)||decide (a < -c))=vv3;generalize Value.bool (decide (c<1)||decide (32768<c))=vv2;generalize Value.bool (decide (c<1))=ww0;generalize Value.bool (decide (32768<c))=ww1;generalize Value.bool (decide (a < -c))=ww2;generalize Value.bool (decide (c<a))=ww3;generalize Value.bool (decide (b < -c))=ww4;generalize Value.bool (decide (c<b))=ww5;have c0:w0.cell? ⟨w.heap.size,0,none⟩=some (int i64 a):=Aa g0 0 rfl;have c1:w0.cell? ⟨w.heap.size,1,none⟩=some (int i64 b):=Aa g0 1 rfl;have c2:w0.cell? ⟨w.heap.size,2,none⟩=some (int i64 c):=Aa g0 2 rfl;have HB:=qh b0;clear g0 b0;have q1:=Wg (show -32768≤a by omega) (show a≤32768 by omega);have q2:=Wg (show -32768≤b by omega) (show b≤32768 by omega);have q3:=Wg (show -32768≤c by omega) (show c≤32768 by omega);have kA:∀W:World,Calls Tryz.prog 107 #[int i64 a] W λe w'=>e=.returned (int i64 (a.natAbs:Nat))∧w'=W:=λW=>Wr a (by omega) (by omega) W
 have kB:∀W:World,Calls Tryz.prog 107 #[int i64 b] W λe w'=>e=.returned (int i64 (b.natAbs:Nat))∧w'=W:=λW=>Wr b (by omega) (by omega) W
 have hF:Nat.gcd a.natAbs b.natAbs≤1099511627776:=by
  by_cases z:a.natAbs=0
  ·rw [z,Nat.gcd_zero_left];omega
  ·have:=Nat.gcd_le_left b.natAbs (show 0<a.natAbs by omega);omega
 have kC:∀W:World,Calls Tryz.prog 106 #[int i64 (a.natAbs:Nat),int i64 (b.natAbs:Nat)] W λe w'=>e=.returned (int i64 (Nat.gcd a.natAbs b.natAbs))∧w'=W:=λW=>Ws _ _ (by omega) (by omega) W
 have kD:∀W:World,Calls Tryz.prog 106 #[int i64 (Nat.gcd a.natAbs b.natAbs:Nat),int i64 c] W λe w'=>e=.returned (int i64 (Nat.gcd (Nat.gcd a.natAbs b.natAbs) c.natAbs))∧w'=W:=λW=>by
  have:=Ws (Nat.gcd a.natAbs b.natAbs) c.natAbs (by omega) (by omega) W
  rwa [show ((c.natAbs:Nat):Int)=c by omega] at this
 have hT:EC a b c=(inB c 1 32768&&inB a (-c) c&&inB b (-c) c&&decide (a*a+b*b=c*c)&&decide (Nat.gcd (Nat.gcd a.natAbs b.natAbs) c.natAbs=1)):=rfl;obtain ⟨aa,hG⟩:∃x,a*a=x:=⟨_,rfl⟩;obtain ⟨bb,hH⟩:∃x,b*b=x:=⟨_,rfl⟩;obtain ⟨cc,hI⟩:∃x,c*c=x:=⟨_,rfl⟩;rw [hG] at q1;rw [hH] at q2;rw [hI] at q3;rw [hG,hH,hI] at hT;have wa:IntKind.i64.wrap aa=aa:=IntWalk.i64_in _ (by omega);have wb:IntKind.i64.wrap bb=bb:=IntWalk.i64_in _ (by omega);have wc:IntKind.i64.wrap cc=cc:=IntWalk.i64_in _ (by omega);obtain ⟨sm,hO⟩:∃x,aa+bb=x:=⟨_,rfl⟩;have wab:IntKind.i64.wrap sm=sm:=IntWalk.i64_in _ (by omega);rw [hO] at hT;have HT:=qh hT;clear hT q1 q2 q3;by_cases hs:sm=cc
 case neg =>
  have HX:=qh (λq=>NO.out (by rw [HT.out,decide_eq_false hs];simp) _ (VC HB.out q));have hP:(sm != cc)=true:=by simpa using hs
  clear kA kB kC kD hF hs NO HR HT;refine wp_region_quiet_lit (by kernel_rfl) (by kernel_rfl) ?_
  repeat (with_reducible refine wpQuiet_step (λK hK=>?_);go_simp;first|(with_reducible refine hK _ ?_;clear hK K))
  refine wpQuiet_nil ?_;intro _ hC;obtain ⟨nq,hA⟩:=hC;subst hA;go_wp2_with fail;go_ret;exact HX.out _
 have hP:(sm != cc)=false:=by simpa using hs
 have hB:(((Nat.gcd (Nat.gcd a.natAbs b.natAbs) c.natAbs:Nat):Int) != 1)=false→r=0:=λh=>by
  rw [← HR.out]
  have h7:Nat.gcd (Nat.gcd a.natAbs b.natAbs) c.natAbs=1:=by
   have:((Nat.gcd (Nat.gcd a.natAbs b.natAbs) c.natAbs:Nat):Int)=1:=by simpa using h
   omega
  rw [if_pos];rw [HT.out];unfold inB;simp only [Bool.and_eq_true,decide_eq_true_eq];exact ⟨⟨⟨⟨⟨by omega,by omega⟩,by omega,by omega⟩,by omega,by omega⟩,hs⟩,h7⟩
 have hD:(((Nat.gcd (Nat.gcd a.natAbs b.natAbs) c.natAbs:Nat):Int) != 1)=true→r=140:=λh=>by
  rw [← HR.out]
  have h7:¬Nat.gcd (Nat.gcd a.natAbs b.natAbs) c.natAbs=1:=by
   have:¬((Nat.gcd (Nat.gcd a.natAbs b.natAbs) c.natAbs:Nat):Int)=1:=by simpa using h
   omega
  rw [if_neg];rw [HT.out];simp only [Bool.and_eq_true,decide_eq_true_eq];exact λq=>h7 q.2
 have HG:=qh hB;have hE:=qh hD;have KA:=qh kA;have KB:=qh kB;have KC:=qh kC;have KD:=qh kD;clear kA kB kC kD hB hD hF hs NO HR HT;obtain ⟨g,hg⟩:∃g,Nat.gcd (Nat.gcd a.natAbs b.natAbs) c.natAbs=g:=⟨_,rfl⟩;rw [hg] at KD HG hE;obtain ⟨g2,hJ⟩:∃g,Nat.gcd a.natAbs b.natAbs=g:=⟨_,rfl⟩;rw [hJ] at KC KD;obtain ⟨na,hL⟩:∃x,a.natAbs=x:=⟨_,rfl⟩;obtain ⟨nb,hM⟩:∃x,b.natAbs=x:=⟨_,rfl⟩;rw [hL] at KA KC;rw [hM] at KB KC;clear hg hJ hL hM
 cases hN:((g:Int) != 1) with
 | true =>
  refine wp_region_quiet_lit (by kernel_rfl) (by kernel_rfl) ?_
  repeat (with_reducible refine wpQuiet_step (λK hK=>?_);go_simp;first|(with_reducible refine hK _ ?_;clear hK K)|(apply Exists.intro;with_reducible refine ⟨λ_=>?_,hK _ ?_⟩;(first|exact Calls.quiet_of_same (KA.out _)|exact Calls.quiet_of_same (KB.out _)|exact Calls.quiet_of_same (KC.out _)|exact Calls.quiet_of_same (KD.out _));clear hK K))
  refine wpQuiet_nil ?_;intro _ hC;obtain ⟨nq,hA⟩:=hC;subst hA;go_wp2_with fail;go_ret;exact ⟨by rw [hE.out hN];rfl,VC HB.out _⟩
 | false =>
  refine wp_region_quiet_lit (by kernel_rfl) (by kernel_rfl) ?_
  repeat (with_reducible refine wpQuiet_step (λK hK=>?_);go_simp;first|(with_reducible refine hK _ ?_;clear hK K)|(apply Exists.intro;with_reducible refine ⟨λ_=>?_,hK _ ?_⟩;(first|exact Calls.quiet_of_same (KA.out _)|exact Calls.quiet_of_same (KB.out _)|exact Calls.quiet_of_same (KC.out _)|exact Calls.quiet_of_same (KD.out _));clear hK K))
  refine wpQuiet_nil ?_;intro _ hC;obtain ⟨nq,hA⟩:=hC;subst hA;go_wp2_with fail;go_ret;exact ⟨by rw [HG.out hN];rfl,VC HB.out _⟩
end
section
open Go Go.RowKit Go.Shelf Go.Deep
end
section
open Go Go.RowKit Go.Deep
theorem VF(n lo hi:Int)(w:World):Calls Tryz.prog 82 #[int i64 n,int i64 lo,int i64 hi] w λe w'=>e=.returned (.bool (inB n lo hi))∧w'=w:=by
 go_enter Tryz.func82,Tryz.ntmps82;go_wp2
 all_goals
  go_ret;refine ⟨Az ?_,rfl⟩;unfold inB;rw [Bool.eq_iff_iff];simp;omega
structure ClkBox(w0:World)(g:Nat)(bars:Int)(vT vP vS:Value)(wr:World):Prop where
 below:Below w0.heap.size w0 wr
 c0:wr.cell? ⟨g,0,none⟩=some (int i64 bars)
 c1:wr.cell? ⟨g,1,none⟩=some vT
 c2:wr.cell? ⟨g,2,none⟩=some vP
 c3:wr.cell? ⟨g,3,none⟩=some vS
theorem ClkBox.make(w:World)(bars:Int)(vT vP vS:Value):ClkBox (w.alloc (.cells #[int i64 bars,vT,vP,vS] 36)) w.heap.size bars vT vP vS (w.alloc (.cells #[int i64 bars,vT,vP,vS] 36)):=by
 have g:=heap_alloc_new w (.cells #[int i64 bars,vT,vP,vS] 36);exact ⟨Below.refl _ _,Aa g 0 rfl,Aa g 1 rfl,Aa g 2 rfl,Aa g 3 rfl⟩
theorem ClkBox.next{w0:World}{g:Nat}{bars:Int}{vT vP vS:Value}{wr w2:World}(h:ClkBox w0 g bars vT vP vS wr)(hg:g<w0.heap.size)(hb:Below w0.heap.size wr w2):ClkBox w0 g bars vT vP vS w2 :=
 ⟨h.below.trans hb,(hb.cell (p:=⟨g,0,none⟩) hg).trans h.c0,(hb.cell (p:=⟨g,1,none⟩) hg).trans h.c1,(hb.cell (p:=⟨g,2,none⟩) hg).trans h.c2,(hb.cell (p:=⟨g,3,none⟩) hg).trans h.c3⟩
theorem WI(bars bar:Int)(b o n c:Nat)(vp vs:Value)(ts:List Tmp)(w:World)(hn:ts.length=n)(hm:n≤65536)(hr:AtRow BS 3 w b o ts)(hb:b<w.heap.size)(hw:Oz ts bar) :
  Calls Tryz.prog 115 #[.agg #[int i64 bars,.slice (some ⟨b,o,none⟩) n c,vp,vs],int i64 bar] w λe w'=>e=.returned (int i64 (Ev ts bar))∧Below w.heap.size w w':=by
 obtain ⟨hs,hu,hR,hS,hC⟩:=hw;have hK:=N4 ts bar;rw [hn] at hK;have hI:=ClkBox.make w bars (.slice (some ⟨b,o,none⟩) n c) vp vs;have hF:Below w.heap.size w (w.alloc (.cells #[int i64 bars,.slice (some ⟨b,o,none⟩) n c,vp,vs] 36)):=(Below.refl _ w).alloc (qn _) _;have HS:=qh hs;have HN:=qh hn;have HR:=qh (hr.below hF hb);have hG:=qh hC;have hE:=qh hF;clear hs hn hr hC hF;go_enter Tryz.func115,Tryz.ntmps115;go_wp2_with fail;generalize w.alloc (.cells #[int i64 bars,.slice (some ⟨b,o,none⟩) n c,vp,vs] 36)=w0 at *;have c1:=hI.c1;clear hI;go_loopw [5] (λkv wr=>∃k:Nat,kv=int i64 k∧k<Do ts bar∧wr=w0) (λkv _=>n-(intOf kv).toNat)
 case atStart=>exact ⟨0,rfl,hu,rfl⟩
 case round =>
  obtain ⟨k,rfl,hk,rfl⟩:=hrel;have hA:∀t∈ts,0≤t.bar∧t.bar≤4096∧-65536≤t.ticks∧t.ticks≤65536∧-65536≤t.step∧t.step≤65536:=hG.out
  have stop:(∀t',ts[k+1]?=some t'→bar<t'.bar)→∃t,ts[k]?=some t∧Ev ts bar=t.ticks+(bar-t.bar)*t.step:=λh=>by
   have ht:=qg (show k<ts.length by rw [HN.out];omega);exact ⟨_,ht,VK ht (Wh HS.out ht ((Lm HS.out ht).2 hk) h)⟩
  obtain ⟨k1,hL⟩:∃x,k+1=x:=⟨_,rfl⟩;have hM:(k:Int)+1=(k1:Int):=by omega
  rw [hL] at stop
  have fin:(∀t',ts[k1]?=some t'→bar<t'.bar)→∃t:Tmp,(wr.cell? ⟨b,o+k*3,none⟩=some (int i64 t.bar)∧wr.cell? ⟨b,o+k*3+1,none⟩=some (int i64 t.ticks)∧wr.cell? ⟨b,o+k*3+2,none⟩=some (int i64 t.step))∧Ev ts bar=t.ticks+(bar-t.bar)*t.step∧(-268435456≤(bar-t.bar)*t.step∧(bar-t.bar)*t.step≤268435456)∧(0≤t.bar∧t.bar≤4096∧-65536≤t.ticks∧t.ticks≤65536):=λh=>by
   obtain ⟨t,h1,h2⟩:=stop h;have h3:=hA t (List.mem_of_getElem? h1);exact ⟨t,atT HR.out h1,h2,Rg (by omega) (by omega) (by omega) (by omega),by omega⟩
  have HF:=qh fin;clear stop fin hA;have hT:(k:Int)<(n:Int):=by omega
  by_cases h1:k1<n
  ·have hN:(k1:Int)<(n:Int):=by omega
   have ht:=qg (show k1<ts.length by rw [HN.out];exact h1);obtain ⟨t1,hJ⟩:∃t,ts[k1]'(by rw [HN.out];exact h1)=t:=⟨_,rfl⟩;rw [hJ] at ht;obtain ⟨p0,_,_⟩:=atT HR.out ht;have hB:=Lm (bar:=bar) HS.out ht;have HT:=qh ht;clear ht hJ;by_cases h2:t1.bar≤bar
   ·have hO:k1<Do ts bar:=hB.1 h2
    clear hB HF HT;go_wp2_with fail;go_roundw
    case rel=>exact ⟨k1,by go_num,hO,trivial⟩
    case measure=>simp [intOf]<;>omega
   ·obtain ⟨t,⟨q0,q1,q2⟩,hD,hP,hQ⟩:=HF.out (λt' h=>by have h3:=h.symm.trans HT.out;injection h3 with h3;rw [h3];omega)
    have hH:=qh hD;have hU:¬t1.bar≤bar:=h2;clear hB HF HT hD;go_wp2_with fail;go_ret;exact ⟨by rw [hH.out];rfl,hE.out.alloc hE.out.size _⟩
  ·have hN:¬(k1:Int)<(n:Int):=by omega
   obtain ⟨t,⟨q0,q1,q2⟩,hD,hP,hQ⟩:=HF.out (λt' h=>by
    have:=(ql.1 h).1
    rw [HN.out] at this;omega)
   have hH:=qh hD;clear HF hD;go_wp2_with fail;go_ret;exact ⟨by rw [hH.out];rfl,hE.out.alloc hE.out.size _⟩
theorem Wi{α:Type}{f:α→Bool}{l:List α}{i:Nat}{x:α}(h:(l.take i).all f=true)(hx:l[i]?=some x)(hf:f x=true):(l.take (i+1)).all f=true:=by
 rw [List.take_add_one,hx,List.all_append,h];simp [hf]
theorem WN{α:Type}{f:α→Bool}{l:List α}{i:Nat}{x:α}(hx:l[i]?=some x)(hf:f x=false):l.all f=false:=by
 rw [Bool.eq_false_iff];intro h;have:=List.all_eq_true.1 h x (List.mem_of_getElem? hx);rw [hf] at this;cases this
theorem WH(bars:Int)(ha:1≤bars)(hb:bars≤4096)(vT vP:Value)(ss:List Con)(aS:Option Addr)(nS cS:Nat)(w:World)(hn:ss.length=nS)(hX:IsRow Cw 4 w (.slice aS nS cS) ss) :
  Calls Tryz.prog 85 #[.agg #[int i64 bars,vT,vP,.slice aS nS cS]] w λe w'=>e=.returned (.bool (ss.all (Gp bars)))∧Below w.heap.size w w':=by
 have hR:nS≤maxLen:=by obtain ⟨_,_,_,h,_⟩:=hX;omega
 simp only [maxLen] at hR;obtain ⟨r,hr⟩:∃r,ss.all (Gp bars)=r:=⟨_,rfl⟩;rw [hr];have HR:=qh hr;clear hr;have hL:=ClkBox.make w bars vT vP (.slice aS nS cS);have hM:Below w.heap.size w (w.alloc (.cells #[int i64 bars,vT,vP,.slice aS nS cS] 36)):=(Below.refl _ w).alloc (qn _) _;have hS:w.heap.size<(w.alloc (.cells #[int i64 bars,vT,vP,.slice aS nS cS] 36)).heap.size:=by simp
 have HN:=qh hn;have HX:=qh hX;have hH:=qh hM;clear hn hX hM;go_enter Tryz.func85,Tryz.ntmps85;go_wp2_with fail;generalize w.alloc (.cells #[int i64 bars,vT,vP,.slice aS nS cS] 36)=w0 at *;have hN:=qh hL;clear hL;have hO:Hid ((ss.take 0).all (Gp bars)=true):=qh rfl;go_loopw [3] (λiv wr=>∃i:Nat,i≤nS∧iv=int i64 i∧Hid ((ss.take i).all (Gp bars)=true)∧Hid (ClkBox w0 w.heap.size bars vT vP (.slice aS nS cS) wr)) (λiv _=>nS-(intOf iv).toNat)
 case atStart=>exact ⟨0,Nat.zero_le _,rfl,hO,hN⟩
 case round =>
  clear hN hO;obtain ⟨i,hi,rfl,hA,hB⟩:=hrel;obtain ⟨hI,c0,c1,c2,c3⟩:=hB.out;have hE:=hH.out.trans (hI.mono hH.out.size);have hc:=qh hI;have hF:=qh hE;have hT:=hI.size;clear hI hE;by_cases hU:i<nS
  ·have hK:(i:Int)<(nS:Int):=by omega
   obtain ⟨s,hs⟩:∃s,ss[i]?=some s:=⟨_,qg (by rw [HN.out];exact hU)⟩;obtain ⟨b,o,hV,hP,hQ⟩:=HX.out.block hs;subst hV;obtain ⟨p0,p1,p2,p3⟩:=atC (hP.below hF.out hQ) hs;have hW:Hid (Gp bars s=true→(ss.take (i+1)).all (Gp bars)=true):=qh λh=>Wi hA.out hs h
   have hD:Hid (Gp bars s=false→r=false):=qh λh=>by rw [← HR.out];exact WN hs h
   have hG:Gp bars s=(inB s.frm 0 bars&&inB s.to 0 bars&&decide (s.frm≠s.to)&&inB s.lo (-1099511627776) s.hi&&decide (s.hi≤1099511627776)):=rfl;have HC:=qh hG;have hJ:=hB.out.next (w2:=wr.alloc (.cells #[int i64 s.frm,int i64 s.to,int i64 s.lo,int i64 s.hi] 82)) hS ((Below.refl _ _).alloc hT _)
   have x2:=heap_alloc_new wr (.cells #[int i64 s.frm,int i64 s.to,int i64 s.lo,int i64 s.hi] 82);have e0:=hJ.c0;clear hP hQ hs hA hB hG;go_wp2_with fail;generalize wr.alloc (.cells #[int i64 s.frm,int i64 s.to,int i64 s.lo,int i64 s.hi] 82)=w5 at *;have l0:w5.cell? ⟨wr.heap.size,0,none⟩=some (int i64 s.frm):=Aa x2 0 rfl;have l1:w5.cell? ⟨wr.heap.size,1,none⟩=some (int i64 s.to):=Aa x2 1 rfl;have l2:w5.cell? ⟨wr.heap.size,2,none⟩=some (int i64 s.lo):=Aa x2 2 rfl;have l3:w5.cell? ⟨wr.heap.size,3,none⟩=some (int i64 s.hi):=Aa x2 3 rfl;have hY:=qh hJ;have hC:=qh (hH.out.trans (hJ.below.mono hH.out.size));clear c0 c1 c2 c3 p0 p1 p2 p3 x2 hJ;generalize wr.heap.size=gw at *;refine (VF s.frm 0 bars _).mono ?_;rintro e w6 ⟨rfl,rfl⟩
   cases q0:inB s.frm 0 bars with
   | false =>
    have HF:=qh (hD.out (by rw [HC.out,q0];rfl));go_wp2_with fail;go_ret;exact ⟨by rw [HF.out];rfl,hC.out⟩
   | true =>
   have Q0:=qh q0;clear q0;go_wp2_with fail;refine (VF s.to 0 bars _).mono ?_;rintro e w7 ⟨rfl,rfl⟩
   cases q1:inB s.to 0 bars with
   | false =>
    have HF:=qh (hD.out (by rw [HC.out,q1];simp));go_wp2_with fail;go_ret;exact ⟨by rw [HF.out];rfl,hC.out⟩
   | true =>
   have Q1:=qh q1;clear q1;by_cases q2:s.frm=s.to
   ·have HF:=qh (hD.out (by rw [HC.out];simp [q2]))
    have q2':(s.frm==s.to)=true:=by simpa using q2
    clear q2;go_wp2_with fail;go_ret;exact ⟨by rw [HF.out];rfl,hC.out⟩
   have q2':(s.frm==s.to)=false:=by simpa using q2
   have Q2:=qh q2;clear q2;by_cases q3:s.lo < -1099511627776
   ·have HF:=qh (hD.out (by rw [HC.out,BZ.2 (Or.inl q3)];simp))
    go_wp2_with fail;go_ret;exact ⟨by rw [HF.out];rfl,hC.out⟩
   by_cases q4:s.hi<s.lo
   ·have HF:=qh (hD.out (by rw [HC.out,BZ.2 (Or.inr q4)];simp))
    go_wp2_with fail;go_ret;exact ⟨by rw [HF.out];rfl,hC.out⟩
   by_cases q5:1099511627776<s.hi
   ·have HF:=qh (hD.out (by rw [HC.out];simp;omega))
    go_wp2_with fail;go_ret;exact ⟨by rw [HF.out];rfl,hC.out⟩
   have hZ:=qh (hW.out (by rw [HC.out,Q0.out,Q1.out,decide_eq_true Q2.out,AL.2 (by omega),decide_eq_true (by omega)];rfl));go_wp2_with fail;go_roundw
   case rel=>exact ⟨i+1,by omega,by go_num,hZ,hY⟩
   case measure=>simp [intOf]<;>omega
  ·obtain rfl:i=nS:=by omega
   have hK:¬(i:Int)<(i:Int):=by omega
   have HF:Hid (r=true):=qh (by
    rw [← HR.out];have:=hA.out
    rwa [List.take_of_length_le (by rw [HN.out];exact qn _)] at this)
   clear hA hB;go_wp2_with fail;go_ret;exact ⟨by rw [HF.out];rfl,hF.out⟩
theorem WA(bars last:Int)(p:Pau)(r:List Pau):E0 bars last (p::r)=((inB p.bar (last+1) (bars-2)&&inB p.kind 1 2&&inB p.lo 0 p.hi&&decide (p.hi≤1048576))&&E0 bars p.bar r):=rfl
theorem Xq{w0:World}{g:Nat}{bars:Int}{vT vP vS:Value}{wr:World}(h:ClkBox w0 g bars vT vP vS wr)(q:Nat):ClkBox w0 g bars vT vP vS (wr.drewN q):=⟨VC h.below q,h.c0,h.c1,h.c2,h.c3⟩
theorem Wv(bars:Int)(h6:1≤bars)(h7:bars≤4096)(vT vS:Value)(ps:List Pau)(aP:Option Addr)(nP cP:Nat)(w:World)(hn:ps.length=nP)(hX:IsRow Cx 4 w (.slice aP nP cP) ps) :
  Calls Tryz.prog 84 #[.agg #[int i64 bars,vT,.slice aP nP cP,vS]] w λe w'=>e=.returned (.bool (E0 bars (-1) ps))∧Below w.heap.size w w':=by
 have ht:nP≤maxLen:=by obtain ⟨_,_,_,h,_⟩:=hX;omega
 simp only [maxLen] at ht;obtain ⟨r,hr⟩:∃r,E0 bars (-1) ps=r:=⟨_,rfl⟩;rw [hr];have HR:=qh hr;clear hr;have he:=ClkBox.make w bars vT (.slice aP nP cP) vS;have hf:Below w.heap.size w (w.alloc (.cells #[int i64 bars,vT,.slice aP nP cP,vS] 36)):=(Below.refl _ w).alloc (qn _) _;have hu:w.heap.size<(w.alloc (.cells #[int i64 bars,vT,.slice aP nP cP,vS] 36)).heap.size:=by simp
 have HN:=qh hn;have HX:=qh hX;have hQ:=qh hf;clear hn hX hf;go_enter Tryz.func84,Tryz.ntmps84;go_wp2_with fail;generalize w.alloc (.cells #[int i64 bars,vT,.slice aP nP cP,vS] 36)=w0 at *;have hg:=qh he;clear he;have hh:Hid (r=E0 bars (-1) (ps.drop 0)):=qh HR.out.symm;have hj:Hid (∀i0 p,0=i0+1→ps[i0]?=some p→p.bar=(-1:Int)):=qh λi0 p h=>by omega
 go_loopw [3] (λiv wr=>∃(i:Nat) (last:Int),i≤nP∧iv=int i64 i∧(i=0∧last=-1∨0<i∧0≤last)∧Hid (r=E0 bars last (ps.drop i))∧Hid (∀i0 p,i=i0+1→ps[i0]?=some p→p.bar=last)∧Hid (ClkBox w0 w.heap.size bars vT (.slice aP nP cP) vS wr)) (λiv _=>nP-(intOf iv).toNat)
 case atStart=>exact ⟨0,-1,Nat.zero_le _,rfl,Or.inl ⟨rfl,rfl⟩,hh,hj,hg⟩
 case round =>
  clear hg hh hj;obtain ⟨i,last,hi,rfl,hC,hA,hP,hB⟩:=hrel;obtain ⟨hR,c0,c1,c2,c3⟩:=hB.out;have hI:=hQ.out.trans (hR.mono hQ.out.size);have hv:=qh hR;have hJ:=qh hI;have hw:=hR.size;clear hR hI;by_cases hx:i<nP
  ·have hT:(i:Int)<(nP:Int):=by omega
   obtain ⟨p,hs⟩:∃s,ps[i]?=some s:=⟨_,qg (by rw [HN.out];exact hx)⟩;obtain ⟨b,o,hy,hU,hV⟩:=HX.out.block hs;subst hy;obtain ⟨p0,p1,p2,p3⟩:=atP (hU.below hJ.out hV) hs
   have hK:r=((inB p.bar (last+1) (bars-2)&&inB p.kind 1 2&&inB p.lo 0 p.hi&&decide (p.hi≤1048576))&&E0 bars p.bar (ps.drop (i+1))):=by
    rw [hA.out,Bm hs,WA]
   have hE:=qh hK
   have hL:Hid (∀i0 q,i+1=i0+1→ps[i0]?=some q→q.bar=p.bar):=qh λi0 q h1 h2=>by
    obtain rfl:i0=i:=by omega
    rw [hs] at h2;cases h2;rfl
   have hM:=hB.out.next (w2:=wr.alloc (.cells #[int i64 p.bar,int i64 p.kind,int i64 p.lo,int i64 p.hi] 79)) hu ((Below.refl _ _).alloc hw _)
   have x2:=heap_alloc_new wr (.cells #[int i64 p.bar,int i64 p.kind,int i64 p.lo,int i64 p.hi] 79)
   have hF:Hid (0<i→∀W,Below w.heap.size w W→∃i0:Nat,(i:Int)-1=(i0:Int)∧(i0:Int)<(nP:Int)∧W.cell? ⟨b,o+i0*4,none⟩=some (int i64 last)):=qh λh W hW=>by
    obtain ⟨i0,rfl⟩:∃i0,i=i0+1:=⟨i-1,by omega⟩;obtain ⟨q,hq⟩:∃s,ps[i0]?=some s:=⟨_,qg (by rw [HN.out];omega)⟩;refine ⟨i0,by omega,by omega,?_⟩;rw [← hP.out i0 q rfl hq];exact (atP (hU.below hW hV) hq).1
   have e0:=hM.c0;have e2:=hM.c2;clear hU hV hs hA hB hK hP;go_wp2_with fail;generalize wr.alloc (.cells #[int i64 p.bar,int i64 p.kind,int i64 p.lo,int i64 p.hi] 79)=w5 at *;have l0:w5.cell? ⟨wr.heap.size,0,none⟩=some (int i64 p.bar):=Aa x2 0 rfl;have l1:w5.cell? ⟨wr.heap.size,1,none⟩=some (int i64 p.kind):=Aa x2 1 rfl;have l2:w5.cell? ⟨wr.heap.size,2,none⟩=some (int i64 p.lo):=Aa x2 2 rfl;have l3:w5.cell? ⟨wr.heap.size,3,none⟩=some (int i64 p.hi):=Aa x2 3 rfl;have hz:=qh hM;have hD:=qh (hQ.out.trans (hM.below.mono hQ.out.size));clear c0 c1 c2 c3 p0 p1 p2 p3 x2 hM;generalize wr.heap.size=gw at *;have h8:IntKind.i64.wrap (bars-2)=bars-2:=IntWalk.i64_in _ (by omega);have HW:=qh (λW=>VF p.bar 0 (bars-2) W)
   have hN:(r=false∧(inB p.bar 0 (bars-2)=false∨(inB p.bar 0 (bars-2)=true∧0<i∧p.bar≤last)∨(inB p.bar 0 (bars-2)=true∧(i=0∨last<p.bar)∧¬p.kind=1∧¬p.kind=2)))∨(inB p.bar (last+1) (bars-2)=true∧inB p.bar 0 (bars-2)=true∧(i=0∨last<p.bar)∧(p.kind=1∨p.kind=2)):=by
    rw [hE.out];by_cases q1:inB p.bar 0 (bars-2)=true
    ·have q2:=AL.1 q1
     by_cases q3:0<i∧p.bar≤last
     ·exact Or.inl ⟨by rw [BZ.2 (Or.inl (by omega))];rfl,Or.inr (Or.inl ⟨q1,q3⟩)⟩
     ·by_cases q4:p.kind=1∨p.kind=2
      ·exact Or.inr ⟨AL.2 (by omega),q1,by omega,q4⟩
      ·exact Or.inl ⟨by rw [BZ.2 (show p.kind<1∨2<p.kind by omega)];simp,Or.inr (Or.inr ⟨q1,by omega,by omega,by omega⟩)⟩
    ·rw [Bool.not_eq_true] at q1
     refine Or.inl ⟨?_,Or.inl q1⟩;rw [BZ] at q1;rw [BZ.2 (by omega)];rfl
   rcases hN with ⟨rfl,hY⟩|⟨k1,k2,k3,k4⟩
   ·rcases hY with hq|⟨hq,hG,h9⟩|⟨hq,hk,hZ,ha⟩
    ·rw [hq] at HW
     clear hq hC hE hL;go_quiet (first|(go_at_call 82;refine Calls.quiet_of_same (HW.out _)));go_wp2_with fail;go_ret;exact ⟨rfl,VC hD.out _⟩
    ·rw [hq] at HW
     obtain ⟨i0,hb,hH,pc⟩:=hF.out hG w5 hD.out;have hO:(0:Int)<(i:Int):=by omega
     have hc:IntKind.i64.wrap (i0:Int)=(i0:Int):=IntWalk.i64_in _ (by omega);clear hq hC hE hL hF;go_quiet (first|(go_at_call 82;refine Calls.quiet_of_same (HW.out _)));go_wp2_with fail;go_ret;exact ⟨rfl,VC hD.out _⟩
    ·rw [hq] at HW
     have hS:(p.kind != 1)=true:=by simpa using hZ
     have hl:(p.kind != 2)=true:=by simpa using ha
     by_cases hG:0<i
     ·obtain ⟨i0,hb,hH,pc⟩:=hF.out hG w5 hD.out
      have hO:(0:Int)<(i:Int):=by omega
      have hc:IntKind.i64.wrap (i0:Int)=(i0:Int):=IntWalk.i64_in _ (by omega);have hm:¬p.bar≤last:=by omega
      clear hq hC hE hL hF hZ ha hk;go_quiet (first|(go_at_call 82;refine Calls.quiet_of_same (HW.out _)));go_wp2_with fail;go_ret;exact ⟨rfl,VC hD.out _⟩
     ·have hO:¬(0:Int)<(i:Int):=by omega
      clear hq hC hE hL hF hZ ha hk;go_quiet (first|(go_at_call 82;refine Calls.quiet_of_same (HW.out _)));go_wp2_with fail;go_ret;exact ⟨rfl,VC hD.out _⟩
   ·rw [k2] at HW
    have h0:(r=false∧((p.lo<0)∨(¬p.lo<0∧p.hi<p.lo)∨(¬p.lo<0∧¬p.hi<p.lo∧1048576<p.hi)))∨((¬p.lo<0∧¬p.hi<p.lo∧¬1048576<p.hi)∧r=E0 bars p.bar (ps.drop (i+1))):=by
     rw [hE.out,k1,AL.2 (show 1≤p.kind∧p.kind≤2 by omega)];by_cases q3:p.lo<0
     ·exact Or.inl ⟨by rw [BZ.2 (Or.inl q3)];simp,Or.inl q3⟩
     by_cases q4:p.hi<p.lo
     ·exact Or.inl ⟨by rw [BZ.2 (Or.inr q4)];simp,Or.inr (Or.inl ⟨q3,q4⟩)⟩
     by_cases q5:1048576<p.hi
     ·exact Or.inl ⟨by rw [decide_eq_false (show ¬p.hi≤1048576 by omega)];simp,Or.inr (Or.inr ⟨q3,q4,q5⟩)⟩
     ·exact Or.inr ⟨⟨q3,q4,q5⟩,by rw [AL.2 (show 0≤p.lo∧p.lo≤p.hi by omega),decide_eq_true (show p.hi≤1048576 by omega)];simp⟩
    have ho:((p.kind != 1)=false)∨((p.kind != 1)=true∧(p.kind != 2)=false):=by
     rcases k4 with h|h
     ·exact Or.inl (by rw [h];rfl)
     ·exact Or.inr ⟨by rw [h];rfl,by rw [h];rfl⟩
    have hp:(0<i∧¬p.bar≤last∧∃i0:Nat,(i:Int)-1=(i0:Int)∧(i0:Int)<(nP:Int)∧IntKind.i64.wrap (i0:Int)=(i0:Int)∧w5.cell? ⟨b,o+i0*4,none⟩=some (int i64 last))∨¬0<i:=by
     by_cases h:0<i
     ·obtain ⟨i0,a1,a2,a3⟩:=hF.out h w5 hD.out
      exact Or.inl ⟨by omega,by omega,i0,a1,a2,IntWalk.i64_in _ (by omega),a3⟩
     ·exact Or.inr (by omega)
    have h3:0≤p.bar:=by have:=AL.1 k2;omega
    have h4:=qh (λq=>Xq hz.out q);clear hE hF k1 k2 k3 k4 hC hv;rcases h0 with ⟨rfl,hq⟩|⟨⟨HA,HB,HC⟩,hK⟩
    ·rcases hp with ⟨hG,hm,i0,hb,hH,hc,pc⟩|hG<;>rcases ho with hS|⟨hS,hl⟩<;>rcases hq with hq|⟨h5,hq⟩|⟨h5,HD,hq⟩
     all_goals
      go_quiet (first|(go_at_call 82;refine Calls.quiet_of_same (HW.out _)));go_wp2_with fail;go_ret;exact ⟨rfl,VC hD.out _⟩
    ·have hd:=qh hK
     clear hK;rcases hp with ⟨hG,hm,i0,hb,hH,hc,pc⟩|hG<;>rcases ho with hS|⟨hS,hl⟩
     all_goals
      go_quiet (first|(go_at_call 82;refine Calls.quiet_of_same (HW.out _)));go_wp2_with fail;go_roundw
      case rel=>exact ⟨i+1,p.bar,by omega,by go_num,Or.inr ⟨by omega,h3⟩,hd,hL,qh (h4.out _)⟩
      case measure=>simp [intOf]<;>omega
  ·obtain rfl:i=nP:=by omega
   have hT:¬(i:Int)<(i:Int):=by omega
   have HF:Hid (r=true):=qh (by
    have:=hA.out;rw [List.drop_of_length_le (by rw [HN.out];exact qn _)] at this
    rw [this];rfl)
   clear hA hB;go_wp2_with fail;go_ret;exact ⟨by rw [HF.out];rfl,hJ.out⟩
def WO(ts:List Tmp):Bool:=match ts with
 | []=>false
 | t::_=>decide (t.bar=0)
theorem Wp{ts:List Tmp}{t:Tmp}(h:ts[0]?=some t):WO ts=decide (t.bar=0):=by
 cases ts with
 | nil=>simp at h
 | cons a r=>simp at h;subst h;rfl
def VN(bars:Int)(ts:List Tmp):Bool:=WO ts&&DJ bars (-1) ts&&Dk ts bars.toNat
theorem WM(bars last:Int)(t:Tmp)(r:List Tmp):DJ bars last (t::r)=((inB t.bar (last+1) (bars-1)&&inB t.ticks (-65536) 65536&&inB t.step (-65536) 65536)&&DJ bars t.bar r):=rfl
theorem Ww(bars:Int)(H6:1≤bars)(H7:bars≤4096)(vP vS:Value)(ts:List Tmp)(aT:Option Addr)(nT cT:Nat)(w:World)(hn:ts.length=nT)(H8:nT≤4096)(hX:IsRow BS 3 w (.slice aT nT cT) ts) :
  Calls Tryz.prog 83 #[.agg #[int i64 bars,.slice aT nT cT,vP,vS]] w λe w'=>e=.returned (.bool (VN bars ts))∧Below w.heap.size w w':=by
 obtain ⟨r,hr⟩:∃r,VN bars ts=r:=⟨_,rfl⟩;rw [hr];have HR:=qh hr;clear hr;have HC:=ClkBox.make w bars (.slice aT nT cT) vP vS;have HW:Below w.heap.size w (w.alloc (.cells #[int i64 bars,.slice aT nT cT,vP,vS] 36)):=(Below.refl _ w).alloc (qn _) _;have HD:w.heap.size<(w.alloc (.cells #[int i64 bars,.slice aT nT cT,vP,vS] 36)).heap.size:=by simp
 have HN:=qh hn;have HX:=qh hX;have hR:=qh HW;clear hn hX HW;by_cases HY:0<nT
 case neg =>
  have he:ts=[]:=List.length_eq_zero_iff.1 (by rw [HN.out];omega);have hz:nT=0:=by omega
  subst hz;have HF:Hid (r=false):=qh (by rw [← HR.out,he];rfl);clear he HY;go_enter Tryz.func83,Tryz.ntmps83;go_wp2_with fail;generalize w.alloc (.cells #[int i64 bars,.slice aT 0 cT,vP,vS] 36)=w0 at *
  try go_wp2_with fail
  go_ret;exact ⟨by rw [HF.out];rfl,hR.out⟩
 obtain ⟨t0,h8⟩:∃t,ts[0]?=some t:=⟨_,qg (by rw [HN.out];exact HY)⟩;obtain ⟨b,o,Hr,Ha,hU⟩:=HX.out.block h8;subst Hr;have hc:=qh Ha;clear Ha;have Hs:(0:Int)<(nT:Int):=by omega
 have Ht:((nT:Int)==0)=false:=by simp;omega
 have p0:(w.alloc (.cells #[int i64 bars,.slice (some ⟨b,o,none⟩) nT cT,vP,vS] 36)).cell? ⟨b,o,none⟩=some (int i64 t0.bar):=by
  have:=(atT (hc.out.below hR.out hU) h8).1;simpa using this
 have hh:=qh h8;clear h8;have c1:=HC.c1;by_cases h0:t0.bar=0
 case neg =>
  have f0:(t0.bar != 0)=true:=by simpa using h0
  have HF:Hid (r=false):=qh (by rw [← HR.out];unfold VN;rw [Wp hh.out,decide_eq_false h0];rfl);clear h0;go_enter Tryz.func83,Tryz.ntmps83;go_wp2_with fail;go_ret;exact ⟨by rw [HF.out];rfl,hR.out⟩
 have f0:(t0.bar != 0)=false:=by simpa using h0
 have HH:=qh (show WO ts=true by rw [Wp hh.out,decide_eq_true h0]);have HZ:=qh h0;clear h0;go_enter Tryz.func83,Tryz.ntmps83;go_wp2_with fail;generalize w.alloc (.cells #[int i64 bars,.slice (some ⟨b,o,none⟩) nT cT,vP,vS] 36)=w0 at *;have hH:=qh HC;clear HC p0 f0 c1;have Hb:Hid (DJ bars (-1) ts=DJ bars (-1) (ts.drop 0)):=qh rfl;have Hc:Hid (∀i0 p,0=i0+1→ts[i0]?=some p→p.bar=(-1:Int)):=qh λi0 p h=>by omega
 go_loopw [3] (λiv wr=>∃(i:Nat) (last:Int),i≤nT∧iv=int i64 i∧(i=0∧last=-1∨0<i∧0≤last)∧Hid (DJ bars (-1) ts=DJ bars last (ts.drop i))∧Hid (∀i0 p,i=i0+1→ts[i0]?=some p→p.bar=last)∧Hid (ClkBox w0 w.heap.size bars (.slice (some ⟨b,o,none⟩) nT cT) vP vS wr)) (λiv _=>nT-(intOf iv).toNat)
 case atStart=>exact ⟨0,-1,Nat.zero_le _,rfl,Or.inl ⟨rfl,rfl⟩,Hb,Hc,hH⟩
 case round =>
  clear hH Hb Hc;obtain ⟨i,last,hi,rfl,hG,hA,hP,hB⟩:=hrel;obtain ⟨hT,c0,c1,c2,c3⟩:=hB.out;have hI:=hR.out.trans (hT.mono hR.out.size);have HE:=qh hT;have hC:=qh hI;have hl:=hT.size;clear hT hI;by_cases Hu:i<nT
  ·have HG:(i:Int)<(nT:Int):=by omega
   obtain ⟨p,hs⟩:∃s,ts[i]?=some s:=⟨_,qg (by rw [HN.out];exact Hu)⟩;obtain ⟨p0,p1,p2⟩:=atT (hc.out.below hC.out hU) hs
   have Hd:DJ bars (-1) ts=((inB p.bar (last+1) (bars-1)&&inB p.ticks (-65536) 65536&&inB p.step (-65536) 65536)&&DJ bars p.bar (ts.drop (i+1))):=by
    rw [hA.out,Bm hs,WM]
   have HI:i=0→p.bar=0:=λh=>by
    subst h;have:=hs.symm.trans hh.out;cases this;exact HZ.out
   have hm:=qh Hd;have hd:Hid (DJ bars (-1) ts=false→r=false):=qh λh=>by rw [← HR.out];unfold VN;rw [h];simp
   have He:Hid (∀i0 q,i+1=i0+1→ts[i0]?=some q→q.bar=p.bar):=qh λi0 q h1 h2=>by
    obtain rfl:i0=i:=by omega
    rw [hs] at h2;cases h2;rfl
   have ho:=hB.out.next (w2:=wr.alloc (.cells #[int i64 p.bar,int i64 p.ticks,int i64 p.step] 76)) HD ((Below.refl _ _).alloc hl _)
   have x2:=heap_alloc_new wr (.cells #[int i64 p.bar,int i64 p.ticks,int i64 p.step] 76)
   have HJ:Hid (0<i→∀W,Below w.heap.size w W→∃i0:Nat,(i:Int)-1=(i0:Int)∧(i0:Int)<(nT:Int)∧W.cell? ⟨b,o+i0*3,none⟩=some (int i64 last)):=qh λh W hW=>by
    obtain ⟨i0,rfl⟩:∃i0,i=i0+1:=⟨i-1,by omega⟩;obtain ⟨q,hq⟩:∃s,ts[i0]?=some s:=⟨_,qg (by rw [HN.out];omega)⟩;refine ⟨i0,by omega,by omega,?_⟩;rw [← hP.out i0 q rfl hq];exact (atT (hc.out.below hW hU) hq).1
   have e0:=ho.c0;have e1:=ho.c1;clear hs hA hB Hd hP;go_wp2_with fail;generalize wr.alloc (.cells #[int i64 p.bar,int i64 p.ticks,int i64 p.step] 76)=w5 at *;have l0:w5.cell? ⟨wr.heap.size,0,none⟩=some (int i64 p.bar):=Aa x2 0 rfl;have l1:w5.cell? ⟨wr.heap.size,1,none⟩=some (int i64 p.ticks):=Aa x2 1 rfl;have l2:w5.cell? ⟨wr.heap.size,2,none⟩=some (int i64 p.step):=Aa x2 2 rfl;have Hv:=qh ho;have hJ:=qh (hR.out.trans (ho.below.mono hR.out.size));clear c0 c1 c2 c3 p0 p1 p2 x2 ho;generalize wr.heap.size=gw at *
   have HK:(0<i∧∃i0:Nat,(i:Int)-1=(i0:Int)∧(i0:Int)<(nT:Int)∧IntKind.i64.wrap (i0:Int)=(i0:Int)∧w5.cell? ⟨b,o+i0*3,none⟩=some (int i64 last))∨¬0<i:=by
    by_cases h:0<i
    ·obtain ⟨i0,a1,a2,a3⟩:=HJ.out h w5 hJ.out
     exact Or.inl ⟨h,i0,a1,a2,IntWalk.i64_in _ (by omega),a3⟩
    ·exact Or.inr h
   by_cases hF:inB p.bar (last+1) (bars-1)=true
   case neg =>
    rw [Bool.not_eq_true] at hF
    have Hw:(0<i∧p.bar≤last)∨(¬p.bar≤last∧bars≤p.bar):=by
     rw [BZ] at hF;by_cases h:0<i
     ·omega
     ·have:=HI (by omega);omega
    obtain rfl:r=false:=hd.out (by rw [hm.out,hF];rfl);clear hF hm hd He HJ HI;rcases Hw with ⟨hf,Hx⟩|⟨Hy,H9⟩
    ·rcases HK with ⟨hf,i0,Hf,hp,Hg,pc⟩|HL
     ·clear hG
      go_quiet (fail);go_wp2_with fail;go_ret;exact ⟨rfl,VC hJ.out _⟩
     ·exact absurd hf HL
    ·clear hG
     rcases HK with ⟨hf,i0,Hf,hp,Hg,pc⟩|hf
     all_goals
      go_quiet (fail);go_wp2_with fail;go_ret;exact ⟨rfl,VC hJ.out _⟩
   have Hz:=AL.1 hF;have Hy:¬p.bar≤last:=by omega
   have H0:¬bars≤p.bar:=by omega
   have hQ:0≤p.bar:=by omega
   have HM:=qh hF;have H1:=qh (λq=>Xq Hv.out q);clear hF Hz HJ HI hG HE;rcases HK with ⟨hf,i0,Hf,hp,Hg,pc⟩|hf
   all_goals
    go_quiet (fail);go_wp2_with fail;refine (VF p.ticks (-65536) 65536 _).mono ?_;rintro e w6 ⟨rfl,rfl⟩
    cases q0:inB p.ticks (-65536) 65536 with
    | false =>
     obtain rfl:r=false:=hd.out (by rw [hm.out,q0];simp);clear q0;go_wp2_with fail;go_ret;exact ⟨rfl,VC hJ.out _⟩
    | true =>
     have Q0:=qh q0;clear q0;go_wp2_with fail;refine (VF p.step (-65536) 65536 _).mono ?_;rintro e w7 ⟨rfl,rfl⟩
     cases q1:inB p.step (-65536) 65536 with
     | false =>
      obtain rfl:r=false:=hd.out (by rw [hm.out,q1];simp);clear q1;go_wp2_with fail;go_ret;exact ⟨rfl,VC hJ.out _⟩
     | true =>
      have H2:=qh (show DJ bars (-1) ts=DJ bars p.bar (ts.drop (i+1)) by rw [hm.out,HM.out,Q0.out,q1];rfl);clear q1;go_wp2_with fail;go_roundw
      case rel=>exact ⟨i+1,p.bar,by omega,by go_num,Or.inr ⟨by omega,hQ⟩,H2,He,qh (H1.out _)⟩
      case measure=>simp [intOf]<;>omega
  ·obtain rfl:i=nT:=by omega
   have HG:¬(i:Int)<(i:Int):=by omega
   have h9:DJ bars (-1) ts=true:=by
    have:=hA.out;rw [List.drop_of_length_le (by rw [HN.out];exact qn _)] at this;rw [this];rfl
   obtain ⟨HO,hZ⟩:=Gl h9;have hu:=Xa h9 hh.out HZ.out
   have HP:∀x:Int,0≤x→x≤bars-1→Oz ts x:=λx h1 h2=>⟨HO,Qr hh.out (by rw [HZ.out];exact h1),h1,by omega,λt ht=>by have:=hZ t ht;omega⟩
   have Hh:=qh h9;have hv:=qh hu;have uA:=qh HP;have hx:=qh hZ;have uB:=qh HO;have Hi:=qh (λ(W:World) (hb:Below w.heap.size w W) (x:Int) (h1:0≤x) (h2:x≤bars-1)=>WI bars x b o i cT vP vS ts W HN.out (by omega) (hc.out.below hb hU) (Nat.lt_of_lt_of_le hU hb.size) (HP x h1 h2))
   have hd:Hid (∀k,k<i→VW bars ts k=false→r=false):=qh λk hk h=>by
    rw [← HR.out];unfold VN
    have:Dk ts bars.toNat=false:=by
     rw [Bool.eq_false_iff];intro q;have:=hv.out.1 q k (by rw [HN.out];exact hk);rw [h] at this;cases this
    rw [this];simp
   have Hj:Hid (∀k,k<0→VW bars ts k=true):=qh λk hk=>by omega
   clear hA hP hG h9 HO hZ hu HP c0 c1 c2 c3 hl;have c1:=hB.out.c1;go_wp2_with fail;clear c1 hC HE;go_loopw [5] (λjv wr=>∃j:Nat,j≤i∧jv=int i64 j∧Hid (∀k,k<j→VW bars ts k=true)∧Hid (ClkBox w0 w.heap.size bars (.slice (some ⟨b,o,none⟩) i cT) vP vS wr)) (λjv _=>i-(intOf jv).toNat)
   case atStart=>exact ⟨0,Nat.zero_le _,rfl,Hj,hB⟩
   case round =>
    clear hB Hj;obtain ⟨j,hj,rfl,hS,hB⟩:=hrel;obtain ⟨hT,c0,c1,c2,c3⟩:=hB.out;have hI:=hR.out.trans (hT.mono hR.out.size);have HE:=qh hT;have hC:=qh hI;have hl:=hT.size;clear hT hI;by_cases Hk:j<i
    ·have HQ:(j:Int)<(i:Int):=by omega
     obtain ⟨p,hs⟩:∃s,ts[j]?=some s:=⟨_,qg (by rw [HN.out];exact Hk)⟩;obtain ⟨p0,p1,p2⟩:=atT (hc.out.below hC.out hU) hs;obtain ⟨j1,Hl⟩:∃x,j+1=x:=⟨_,rfl⟩;have H3:(j:Int)+1=(j1:Int):=by omega
     obtain ⟨L,hL⟩:∃x,VE bars ts j=x:=⟨_,rfl⟩;have Hm:=VO Hh.out hs;rw [hL] at Hm;have H4:=hx.out p (List.mem_of_getElem? hs)
     have hM:(∃q:Tmp,(j1:Int)<(i:Int)∧wr.cell? ⟨b,o+j1*3,none⟩=some (int i64 q.bar)∧q.bar-1=L∧-4096≤q.bar∧q.bar≤4096)∨(¬(j1:Int)<(i:Int)∧bars-1=L):=by
      by_cases h:j1<i
      ·obtain ⟨q,hq⟩:∃s,ts[j1]?=some s:=⟨_,qg (by rw [HN.out];exact h)⟩
       have HS:=hx.out q (List.mem_of_getElem? hq);refine Or.inl ⟨q,by omega,(atT (hc.out.below hC.out hU) hq).1,?_,by omega,by omega⟩;rw [← hL];unfold VE;rw [Hl,hq]
      ·refine Or.inr ⟨by omega,?_⟩
       rw [← hL];unfold VE;rw [Hl,List.getElem?_eq_none (by rw [HN.out];omega)]
     have Hn:VW bars ts j=(inB (Ev ts p.bar) 1 65536&&inB (Ev ts L) 1 65536):=by
      unfold VW;rw [hL,show ts[j]! = p by simp [hs]]
     have hV:=qh Hn;have hy:=qh (hd.out j Hk);have HA:=qh (λ(W:World) (hb:Below w.heap.size w W)=>Hi.out W hb p.bar (by omega) (by omega));have HT:=qh (λ(W:World) (hb:Below w.heap.size w W)=>Hi.out W hb L (by omega) (by omega))
     have HB:Hid (VW bars ts j=true→∀k,k<j1→VW bars ts k=true):=qh λh k hk=>by
      by_cases e:k=j
      ·rw [e];exact h
      ·exact hS.out k (by omega)
     clear hs hL Hn hS p1 p2
     have KS:Hid (∀w2,Below wr.heap.size wr w2→w2.cell? ⟨w.heap.size,0,none⟩=some (int i64 bars)∧w2.cell? ⟨w.heap.size,1,none⟩=some (.slice (some ⟨b,o,none⟩) i cT)∧w2.cell? ⟨w.heap.size,2,none⟩=some vP∧w2.cell? ⟨w.heap.size,3,none⟩=some vS∧w2.cell? ⟨b,o+j*3,none⟩=some (int i64 p.bar)):=qh λw2 h=>by
      have hb:=hB.out.next HD (h.mono hl)
      refine ⟨hb.c0,hb.c1,hb.c2,hb.c3,?_⟩;exact (h.cell (p:=⟨b,o+j*3,none⟩) (Nat.lt_of_lt_of_le hU hC.out.size)).trans p0
     have H5:Hid (∀w2,Below wr.heap.size wr w2→ClkBox w0 w.heap.size bars (.slice (some ⟨b,o,none⟩) i cT) vP vS w2):=qh λw2 h=>hB.out.next HD (h.mono hl)
     have hg:=qh (λW=>VF (Ev ts p.bar) 1 65536 W);have h6:=qh (λW=>VF (Ev ts L) 1 65536 W);clear hB H4 Hm;obtain ⟨T1,Ho⟩:∃x,Ev ts p.bar=x:=⟨_,rfl⟩;obtain ⟨T2,Hp⟩:∃x,Ev ts L=x:=⟨_,rfl⟩;rw [Ho] at hg HA hV;rw [Hp] at h6 HT hV;clear Ho Hp
     cases q1:inB T1 1 65536 with
     | false =>
      obtain rfl:r=false:=hy.out (by rw [hV.out,q1];rfl);rw [q1] at hg;clear q1 hV hy HB;rcases hM with ⟨q,hE,q0,hY,Hq,HS⟩|⟨hE,hY⟩
      all_goals
       go_wp2_with fail;clear hY hE;refine wp_region_noPanic ?_;refine wp_region_held (S:=λw2=>w2.cell? ⟨w.heap.size,0,none⟩=some (int i64 bars)∧w2.cell? ⟨w.heap.size,1,none⟩=some (.slice (some ⟨b,o,none⟩) i cT)∧w2.cell? ⟨w.heap.size,2,none⟩=some vP∧w2.cell? ⟨w.heap.size,3,none⟩=some vS∧w2.cell? ⟨b,o+j*3,none⟩=some (int i64 p.bar)) (by kernel_rfl) ?_;change wpAnyH _ _ _ _ _ _ _ _ wr.drew;have hS:=KS.out _ (Below.refl wr.heap.size wr).drew;refine tk 0 _ (.agg #[int i64 bars,.slice (some ⟨b,o,none⟩) i cT,vP,vS]) rfl (λw hw=>by obtain ⟨h1,h2,h3,h4,h5⟩:=hw;go_simp) hS ?_;simp only [Act.put,qz];refine tk 1 _ (.pointer (some ⟨w.heap.size,1,none⟩)) rfl (λw hw=>by obtain ⟨h1,h2,h3,h4,h5⟩:=hw;go_simp) hS ?_;simp only [Act.put,qz];refine tk 2 _ (.slice (some ⟨b,o,none⟩) i cT) rfl (λw hw=>by obtain ⟨h1,h2,h3,h4,h5⟩:=hw;go_simp) hS ?_;simp only [Act.put,qz];refine tk 3 _ (int i64 j) rfl (λw hw=>by obtain ⟨h1,h2,h3,h4,h5⟩:=hw;go_simp) hS ?_;simp only [Act.put,qz];refine tk 4 _ (.pointer (some ⟨b,o+j*3,none⟩)) rfl (λw hw=>by obtain ⟨h1,h2,h3,h4,h5⟩:=hw;go_simp) hS ?_;simp only [Act.put,qz];refine tk 5 _ (.pointer (some ⟨b,o+j*3,none⟩)) rfl (λw hw=>by obtain ⟨h1,h2,h3,h4,h5⟩:=hw;go_simp) hS ?_;simp only [Act.put,qz];refine tk 6 _ (int i64 p.bar) rfl (λw hw=>by obtain ⟨h1,h2,h3,h4,h5⟩:=hw;go_simp) hS ?_;simp only [Act.put,qz];refine tr 7 _ (by kernel_rfl) rfl λK1 hK=>?_
       go_simp;refine (HA.out _ hC.out.drew).mono ?_;rintro e w5 ⟨rfl,hQ⟩;have hN:Below wr.heap.size wr w5:=(Below.refl wr.heap.size wr).drew.trans hQ;have hH:=qh hN;have hD:=KS.out _ hN;refine hK.out _ _ hD (λ_=>?_);clear hK K1 hS hQ hN
       try simp only [Act.put,qz]
       refine tr 8 _ (by kernel_rfl) rfl λK1 hK=>?_
       go_simp;refine (hg.out _).mono ?_;rintro e w6 ⟨rfl,rfl⟩;refine hK.out _ _ hD (λ_=>?_);clear hK K1
       try simp only [Act.put,qz]
       refine tk 9 _ (.bool true) rfl (λw hw=>by obtain ⟨h1,h2,h3,h4,h5⟩:=hw;go_simp) hD ?_;simp only [Act.put,qz];refine tk 10 _ (.bool true) rfl (λw hw=>by obtain ⟨h1,h2,h3,h4,h5⟩:=hw;go_simp) hD ?_;simp only [Act.put,qz];refine tq 11 _ undef rfl (by kernel_rfl) (λ_ _ _ h=>h) (Or.inr ⟨by kernel_rfl,rfl⟩) hD ?_;simp only [Act.put,qz];refine tq 12 _ undef rfl (by kernel_rfl) (λ_ _ _ h=>h) (Or.inr ⟨by kernel_rfl,rfl⟩) hD ?_;simp only [Act.put,qz];refine tq 13 _ undef rfl (by kernel_rfl) (λ_ _ _ h=>h) (Or.inr ⟨by kernel_rfl,rfl⟩) hD ?_;simp only [Act.put,qz];refine tq 14 _ undef rfl (by kernel_rfl) (λ_ _ _ h=>h) (Or.inr ⟨by kernel_rfl,rfl⟩) hD ?_;simp only [Act.put,qz];refine tq 15 _ undef rfl (by kernel_rfl) (λ_ _ _ h=>h) (Or.inr ⟨by kernel_rfl,rfl⟩) hD ?_;simp only [Act.put,qz];refine tk 16 _ (.bool true) rfl (λw hw=>by obtain ⟨h1,h2,h3,h4,h5⟩:=hw;go_simp) hD ?_;simp only [Act.put,qz];refine wpAnyH_done (by kernel_rfl) ?_ _;refine NoPanic.normal ?_;clear hD;go_wp2_with fail;go_ret;exact ⟨rfl,hC.out.trans (hH.out.mono hC.out.size)⟩
     | true =>
      rw [q1] at hg;have Q1:=qh q1;clear q1
      cases q2:inB T2 1 65536 with
      | false =>
       obtain rfl:r=false:=hy.out (by rw [hV.out,q2];simp);rw [q2] at h6;clear q2 hV hy HB;rcases hM with ⟨q,hE,q0,hY,Hq,HS⟩|⟨hE,hY⟩
       all_goals
        go_wp2_with fail;clear hY hE;refine wp_region_noPanic ?_;refine wp_region_held (S:=λw2=>w2.cell? ⟨w.heap.size,0,none⟩=some (int i64 bars)∧w2.cell? ⟨w.heap.size,1,none⟩=some (.slice (some ⟨b,o,none⟩) i cT)∧w2.cell? ⟨w.heap.size,2,none⟩=some vP∧w2.cell? ⟨w.heap.size,3,none⟩=some vS∧w2.cell? ⟨b,o+j*3,none⟩=some (int i64 p.bar)) (by kernel_rfl) ?_;change wpAnyH _ _ _ _ _ _ _ _ wr.drew;have hS:=KS.out _ (Below.refl wr.heap.size wr).drew;refine tk 0 _ (.agg #[int i64 bars,.slice (some ⟨b,o,none⟩) i cT,vP,vS]) rfl (λw hw=>by obtain ⟨h1,h2,h3,h4,h5⟩:=hw;go_simp) hS ?_;simp only [Act.put,qz];refine tk 1 _ (.pointer (some ⟨w.heap.size,1,none⟩)) rfl (λw hw=>by obtain ⟨h1,h2,h3,h4,h5⟩:=hw;go_simp) hS ?_;simp only [Act.put,qz];refine tk 2 _ (.slice (some ⟨b,o,none⟩) i cT) rfl (λw hw=>by obtain ⟨h1,h2,h3,h4,h5⟩:=hw;go_simp) hS ?_;simp only [Act.put,qz];refine tk 3 _ (int i64 j) rfl (λw hw=>by obtain ⟨h1,h2,h3,h4,h5⟩:=hw;go_simp) hS ?_;simp only [Act.put,qz];refine tk 4 _ (.pointer (some ⟨b,o+j*3,none⟩)) rfl (λw hw=>by obtain ⟨h1,h2,h3,h4,h5⟩:=hw;go_simp) hS ?_;simp only [Act.put,qz];refine tk 5 _ (.pointer (some ⟨b,o+j*3,none⟩)) rfl (λw hw=>by obtain ⟨h1,h2,h3,h4,h5⟩:=hw;go_simp) hS ?_;simp only [Act.put,qz];refine tk 6 _ (int i64 p.bar) rfl (λw hw=>by obtain ⟨h1,h2,h3,h4,h5⟩:=hw;go_simp) hS ?_;simp only [Act.put,qz];refine tr 7 _ (by kernel_rfl) rfl λK1 hK=>?_
        go_simp;refine (HA.out _ hC.out.drew).mono ?_;rintro e w5 ⟨rfl,hQ⟩;have hN:Below wr.heap.size wr w5:=(Below.refl wr.heap.size wr).drew.trans hQ;have hH:=qh hN;have hD:=KS.out _ hN;refine hK.out _ _ hD (λ_=>?_);clear hK K1 hS hQ hN
        try simp only [Act.put,qz]
        refine tr 8 _ (by kernel_rfl) rfl λK1 hK=>?_
        go_simp;refine (hg.out _).mono ?_;rintro e w6 ⟨rfl,rfl⟩;refine hK.out _ _ hD (λ_=>?_);clear hK K1
        try simp only [Act.put,qz]
        refine tk 9 _ (.bool false) rfl (λw hw=>by obtain ⟨h1,h2,h3,h4,h5⟩:=hw;go_simp) hD ?_;simp only [Act.put,qz];refine tk 10 _ (.bool false) rfl (λw hw=>by obtain ⟨h1,h2,h3,h4,h5⟩:=hw;go_simp) hD ?_;simp only [Act.put,qz];refine tk 11 _ (.agg #[int i64 bars,.slice (some ⟨b,o,none⟩) i cT,vP,vS]) rfl (λw hw=>by obtain ⟨h1,h2,h3,h4,h5⟩:=hw;go_simp) hD ?_;simp only [Act.put,qz];refine tk 12 _ (int i64 L) rfl (λw hw=>by obtain ⟨h1,h2,h3,h4,h5⟩:=hw;go_simp) hD ?_;simp only [Act.put,qz];refine tr 13 _ (by kernel_rfl) rfl λK1 hK=>?_
        go_simp;refine (HT.out _ (hC.out.trans (hH.out.mono hC.out.size))).mono ?_;rintro e w8 ⟨rfl,h7⟩;have ha:Below wr.heap.size wr w8:=hH.out.trans (h7.mono hH.out.size);have HU:=qh ha;have hO:=KS.out _ ha;refine hK.out _ _ hO (λ_=>?_);clear hK K1 hD h7 ha
        try simp only [Act.put,qz]
        refine tr 14 _ (by kernel_rfl) rfl λK1 hK=>?_
        go_simp;refine (h6.out _).mono ?_;rintro e w9 ⟨rfl,rfl⟩;refine hK.out _ _ hO (λ_=>?_);clear hK K1
        try simp only [Act.put,qz]
        refine tk 15 _ (.bool true) rfl (λw hw=>by obtain ⟨h1,h2,h3,h4,h5⟩:=hw;go_simp) hO ?_;simp only [Act.put,qz];refine tk 16 _ (.bool true) rfl (λw hw=>by obtain ⟨h1,h2,h3,h4,h5⟩:=hw;go_simp) hO ?_;simp only [Act.put,qz];refine wpAnyH_done (by kernel_rfl) ?_ _;refine NoPanic.normal ?_;clear hO;go_wp2_with fail;go_ret;exact ⟨rfl,hC.out.trans (HU.out.mono hC.out.size)⟩
      | true =>
       have HV:=qh (HB.out (by rw [hV.out,Q1.out,q2];rfl));rw [q2] at h6;clear q2 hV hy HB;rcases hM with ⟨q,hE,q0,hY,Hq,HS⟩|⟨hE,hY⟩
       all_goals
        go_wp2_with fail;clear hY hE;refine wp_region_noPanic ?_;refine wp_region_held (S:=λw2=>w2.cell? ⟨w.heap.size,0,none⟩=some (int i64 bars)∧w2.cell? ⟨w.heap.size,1,none⟩=some (.slice (some ⟨b,o,none⟩) i cT)∧w2.cell? ⟨w.heap.size,2,none⟩=some vP∧w2.cell? ⟨w.heap.size,3,none⟩=some vS∧w2.cell? ⟨b,o+j*3,none⟩=some (int i64 p.bar)) (by kernel_rfl) ?_;change wpAnyH _ _ _ _ _ _ _ _ wr.drew;have hS:=KS.out _ (Below.refl wr.heap.size wr).drew;refine tk 0 _ (.agg #[int i64 bars,.slice (some ⟨b,o,none⟩) i cT,vP,vS]) rfl (λw hw=>by obtain ⟨h1,h2,h3,h4,h5⟩:=hw;go_simp) hS ?_;simp only [Act.put,qz];refine tk 1 _ (.pointer (some ⟨w.heap.size,1,none⟩)) rfl (λw hw=>by obtain ⟨h1,h2,h3,h4,h5⟩:=hw;go_simp) hS ?_;simp only [Act.put,qz];refine tk 2 _ (.slice (some ⟨b,o,none⟩) i cT) rfl (λw hw=>by obtain ⟨h1,h2,h3,h4,h5⟩:=hw;go_simp) hS ?_;simp only [Act.put,qz];refine tk 3 _ (int i64 j) rfl (λw hw=>by obtain ⟨h1,h2,h3,h4,h5⟩:=hw;go_simp) hS ?_;simp only [Act.put,qz];refine tk 4 _ (.pointer (some ⟨b,o+j*3,none⟩)) rfl (λw hw=>by obtain ⟨h1,h2,h3,h4,h5⟩:=hw;go_simp) hS ?_;simp only [Act.put,qz];refine tk 5 _ (.pointer (some ⟨b,o+j*3,none⟩)) rfl (λw hw=>by obtain ⟨h1,h2,h3,h4,h5⟩:=hw;go_simp) hS ?_;simp only [Act.put,qz];refine tk 6 _ (int i64 p.bar) rfl (λw hw=>by obtain ⟨h1,h2,h3,h4,h5⟩:=hw;go_simp) hS ?_;simp only [Act.put,qz];refine tr 7 _ (by kernel_rfl) rfl λK1 hK=>?_
        go_simp;refine (HA.out _ hC.out.drew).mono ?_;rintro e w5 ⟨rfl,hQ⟩;have hN:Below wr.heap.size wr w5:=(Below.refl wr.heap.size wr).drew.trans hQ;have hH:=qh hN;have hD:=KS.out _ hN;refine hK.out _ _ hD (λ_=>?_);clear hK K1 hS hQ hN
        try simp only [Act.put,qz]
        refine tr 8 _ (by kernel_rfl) rfl λK1 hK=>?_
        go_simp;refine (hg.out _).mono ?_;rintro e w6 ⟨rfl,rfl⟩;refine hK.out _ _ hD (λ_=>?_);clear hK K1
        try simp only [Act.put,qz]
        refine tk 9 _ (.bool false) rfl (λw hw=>by obtain ⟨h1,h2,h3,h4,h5⟩:=hw;go_simp) hD ?_;simp only [Act.put,qz];refine tk 10 _ (.bool false) rfl (λw hw=>by obtain ⟨h1,h2,h3,h4,h5⟩:=hw;go_simp) hD ?_;simp only [Act.put,qz];refine tk 11 _ (.agg #[int i64 bars,.slice (some ⟨b,o,none⟩) i cT,vP,vS]) rfl (λw hw=>by obtain ⟨h1,h2,h3,h4,h5⟩:=hw;go_simp) hD ?_;simp only [Act.put,qz];refine tk 12 _ (int i64 L) rfl (λw hw=>by obtain ⟨h1,h2,h3,h4,h5⟩:=hw;go_simp) hD ?_;simp only [Act.put,qz];refine tr 13 _ (by kernel_rfl) rfl λK1 hK=>?_
        go_simp;refine (HT.out _ (hC.out.trans (hH.out.mono hC.out.size))).mono ?_;rintro e w8 ⟨rfl,h7⟩;have ha:Below wr.heap.size wr w8:=hH.out.trans (h7.mono hH.out.size);have HU:=qh ha;have hO:=KS.out _ ha;refine hK.out _ _ hO (λ_=>?_);clear hK K1 hD h7 ha
        try simp only [Act.put,qz]
        refine tr 14 _ (by kernel_rfl) rfl λK1 hK=>?_
        go_simp;refine (h6.out _).mono ?_;rintro e w9 ⟨rfl,rfl⟩;refine hK.out _ _ hO (λ_=>?_);clear hK K1
        try simp only [Act.put,qz]
        refine tk 15 _ (.bool false) rfl (λw hw=>by obtain ⟨h1,h2,h3,h4,h5⟩:=hw;go_simp) hO ?_;simp only [Act.put,qz];refine tk 16 _ (.bool false) rfl (λw hw=>by obtain ⟨h1,h2,h3,h4,h5⟩:=hw;go_simp) hO ?_;simp only [Act.put,qz];refine wpAnyH_done (by kernel_rfl) ?_ _;refine NoPanic.normal ?_;clear hO;go_wp2_with fail;go_roundw
        case rel=>exact ⟨j1,by omega,by go_num,HV,qh (H5.out _ HU.out)⟩
        case measure=>simp [intOf]<;>omega
    ·obtain rfl:j=i:=by omega
     have HQ:¬(j:Int)<(j:Int):=by omega
     have HF:Hid (r=true):=qh (by
      rw [← HR.out];unfold VN
      rw [HH.out,Hh.out,hv.out.2 (λk hk=>hS.out k (by rw [← HN.out];exact hk))];rfl)
     clear hB hS;go_wp2_with fail;go_ret;exact ⟨by rw [HF.out];rfl,hC.out⟩
theorem Wz(bars:Int)(ts:List Tmp)(ps:List Pau)(ss:List Con):E8 ⟨bars,ts,ps,ss⟩=(inB bars 1 4096&&VN bars ts&&E0 bars (-1) ps&&ss.all (Gp bars)):=by
 unfold E8 C7 VN WO;cases ts<;>simp [Bool.and_assoc]
theorem We(bars:Int)(ts:List Tmp)(ps:List Pau)(ss:List Con)(aT aP aS:Option Addr)(nT nP nS cT cP cS:Nat)(w:World)(hK:ts.length=nT)(hL:ps.length=nP)(hM:ss.length=nS)
  (hT:IsRow BS 3 w (.slice aT nT cT) ts) (hP:IsRow Cx 4 w (.slice aP nP cP) ps) (hS:IsRow Cw 4 w (.slice aS nS cS) ss) :
  Calls Tryz.prog 52 #[.agg #[int i64 bars,.slice aT nT cT,.slice aP nP cP,.slice aS nS cS]] w λe w'=>e=.returned (int i64 (C8 ⟨bars,ts,ps,ss⟩))∧Below w.heap.size w w':=by
 obtain ⟨r,hr⟩:∃r,C8 ⟨bars,ts,ps,ss⟩=r:=⟨_,rfl⟩;rw [hr];have hE:DL ⟨bars,ts,ps,ss⟩=(decide (nT≤4096)&&decide (nP≤4096)&&decide (nS≤256)):=by unfold DL;rw [← hK,← hL,← hM]
 have HR:=qh hr;have hA:=qh hE;have hF:=qh (Wz bars ts ps ss);have hR:DL ⟨bars,ts,ps,ss⟩=false→r=2:=λh=>by rw [← HR.out];unfold C8;rw [h];rfl
 have hG:DL ⟨bars,ts,ps,ss⟩=true→E8 ⟨bars,ts,ps,ss⟩=false→r=130:=λh h2=>by rw [← HR.out];unfold C8;rw [h,h2];rfl
 have hU:DL ⟨bars,ts,ps,ss⟩=true→E8 ⟨bars,ts,ps,ss⟩=true→r=0:=λh h2=>by rw [← HR.out];unfold C8;rw [h,h2];rfl
 have hN:=qh hR;have hB:=qh hG;have he:=qh hU;have hV:=ClkBox.make w bars (.slice aT nT cT) (.slice aP nP cP) (.slice aS nS cS);have hW:Below w.heap.size w (w.alloc (.cells #[int i64 bars,.slice aT nT cT,.slice aP nP cP,.slice aS nS cS] 36)):=(Below.refl _ w).alloc (qn _) _;have hO:w.heap.size<(w.alloc (.cells #[int i64 bars,.slice aT nT cT,.slice aP nP cP,.slice aS nS cS] 36)).heap.size:=by simp
 have mT:nT≤maxLen:=by obtain ⟨_,_,_,h,_⟩:=hT;omega
 have mP:nP≤maxLen:=by obtain ⟨_,_,_,h,_⟩:=hP;omega
 have mS:nS≤maxLen:=by obtain ⟨_,_,_,h,_⟩:=hS;omega
 simp only [maxLen] at mT mP mS;have hC:=qh hW;have hX:=qh hV;have HT:=qh (λ(W:World) (hb:Below w.heap.size w W) (h1:1≤bars) (h2:bars≤4096) (h3:nT≤4096)=>Ww bars h1 h2 (.slice aP nP cP) (.slice aS nS cS) ts aT nT cT W hK h3 (hT.below hb (qn _)));have HP:=qh (λ(W:World) (hb:Below w.heap.size w W) (h1:1≤bars) (h2:bars≤4096)=>Wv bars h1 h2 (.slice aT nT cT) (.slice aS nS cS) ps aP nP cP W hL (hP.below hb (qn _)));have HS:=qh (λ(W:World) (hb:Below w.heap.size w W) (h1:1≤bars) (h2:bars≤4096)=>WH bars h1 h2 (.slice aT nT cT) (.slice aP nP cP) ss aS nS cS W hM (hS.below hb (qn _)));clear hr hE hR hG hU hW hT hP hS hK hL hM;obtain ⟨_,c0,c1,c2,c3⟩:=hV;by_cases q1:(4096:Int)<(nT:Int)
 ·have HF:=qh (hN.out (by rw [hA.out,decide_eq_false (show ¬nT≤4096 by omega)];rfl))
  go_enter Tryz.func52,Tryz.ntmps52;go_wp2_with fail;go_ret;exact ⟨by rw [HF.out];rfl,hC.out⟩
 by_cases q2:(4096:Int)<(nP:Int)
 ·have HF:=qh (hN.out (by rw [hA.out,decide_eq_false (show ¬nP≤4096 by omega)];simp))
  go_enter Tryz.func52,Tryz.ntmps52;go_wp2_with fail;go_ret;exact ⟨by rw [HF.out];rfl,hC.out⟩
 by_cases q3:(256:Int)<(nS:Int)
 ·have HF:=qh (hN.out (by rw [hA.out,decide_eq_false (show ¬nS≤256 by omega)];simp))
  go_enter Tryz.func52,Tryz.ntmps52;go_wp2_with fail;go_ret;exact ⟨by rw [HF.out];rfl,hC.out⟩
 have HL:=qh (show DL ⟨bars,ts,ps,ss⟩=true by rw [hA.out,decide_eq_true (show nT≤4096 by omega),decide_eq_true (show nP≤4096 by omega),decide_eq_true (show nS≤256 by omega)];rfl);have hf:nT≤4096:=by omega
 go_enter Tryz.func52,Tryz.ntmps52;go_wp2_with fail;clear q1 q2 q3;generalize w.alloc (.cells #[int i64 bars,.slice aT nT cT,.slice aP nP cP,.slice aS nS cS] 36)=w0 at *;refine (VF bars 1 4096 w0).mono ?_;rintro e w1 ⟨rfl,rfl⟩
 cases b1:inB bars 1 4096 with
 | false =>
  have HF:=qh (hB.out HL.out (by rw [hF.out,b1];rfl));go_wp2_with fail;go_ret;exact ⟨by rw [HF.out];rfl,hC.out⟩
 | true =>
 have hD:=AL.1 b1;have B1:=qh b1;have hY:=qh (HT.out w1 hC.out hD.1 hD.2 hf);clear b1 HT;go_wp2_with fail;refine hY.out.mono ?_;rintro e w2 ⟨rfl,hH⟩;obtain ⟨_,d0,d1,d2,d3⟩:=hX.out.next (w2:=w2) hO hH
 have hg:=qh (hX.out.next (w2:=w2) hO hH);have hI:=qh (hC.out.trans (hH.mono hC.out.size));have hh:=hH.size;clear c0 c1 c2 c3 hH hY
 cases b2:VN bars ts with
 | false =>
  have HF:=qh (hB.out HL.out (by rw [hF.out,b2];simp));go_wp2_with fail;go_ret;exact ⟨by rw [HF.out];rfl,hI.out⟩
 | true =>
 have B2:=qh b2;have hZ:=qh (HP.out w2 hI.out hD.1 hD.2);clear b2 HP;go_wp2_with fail;refine hZ.out.mono ?_;rintro e w3 ⟨rfl,hQ⟩;obtain ⟨_,c0,c1,c2,c3⟩:=hg.out.next (w2:=w3) hO (hQ.mono hh)
 have hJ:=qh (hI.out.trans (hQ.mono hI.out.size));clear d0 d1 d2 d3 hQ hZ
 cases b3:E0 bars (-1) ps with
 | false =>
  have HF:=qh (hB.out HL.out (by rw [hF.out,b3];simp));go_wp2_with fail;go_ret;exact ⟨by rw [HF.out];rfl,hJ.out⟩
 | true =>
 have B3:=qh b3;have ha:=qh (HS.out w3 hJ.out hD.1 hD.2);clear b3 HS;go_wp2_with fail;refine ha.out.mono ?_;rintro e w4 ⟨rfl,hc⟩;have hd:=qh (hJ.out.trans (hc.mono hJ.out.size));clear c0 c1 c2 c3 hc ha
 cases b4:ss.all (Gp bars) with
 | false =>
  have HF:=qh (hB.out HL.out (by rw [hF.out,b4];simp));go_wp2_with fail;go_ret;exact ⟨by rw [HF.out];rfl,hd.out⟩
 | true =>
  have HF:=qh (he.out HL.out (by rw [hF.out,B1.out,B2.out,B3.out,b4];rfl));go_wp2_with fail;go_ret;exact ⟨by rw [HF.out];rfl,hd.out⟩
theorem VX(n lo hi:Int)(w:World):Calls Tryz.prog 47 #[int i64 n,int i64 lo,int i64 hi] w λe w'=>e=.returned (.bool (inB n lo hi))∧w'=w:=by
 go_enter Tryz.func47,Tryz.ntmps47;go_wp2
 all_goals
  go_ret;refine ⟨Az ?_,rfl⟩;unfold inB;rw [Bool.eq_iff_iff];simp;omega
def Vy(s d l z h:Int):Bool:=s==0&&d==0&&l==0&&z==0&&h==0
theorem VG(s d l z h:Int)(w:World):(binOp .eql 54 (.agg #[int i64 0,int i64 0,int i64 0,int i64 0,int i64 0,int i64 s,int i64 d,int i64 l,int i64 z,int i64 h,int i64 0,int i64 0,int i64 0,int i64 0]) (.agg #[int i64 0,int i64 0,int i64 0,int i64 0,int i64 0,int i64 0,int i64 0,int i64 0,int i64 0,int i64 0,int i64 0,int i64 0,int i64 0,int i64 0])).run Tryz.prog w=.ok (.bool (Vy s d l z h)) w:=by
 have u3:=Tryz.underlying3;have a3:=Tryz.isAgg3;have z3:=Tryz.sizeOf3;have hS:Tryz.prog.underlying 54=some (.struct (Tryz.prog.fieldsOf 54)):=by kernel_rfl
 have hp:Tryz.prog.stoodInHeld 54=false:=by kernel_rfl
 rw [run_eql_struct,show (10000:Nat)=9999+1 from rfl,run_equalIn_agg w 9999 54 _ _ hS hp];simp only [Program.fieldsOf,Tryz.underlying54];go_simp;unfold Vy;by_cases h1:s=0<;>by_cases h2:d=0<;>by_cases h3:l=0<;>by_cases h4:z=0<;>by_cases h5:h=0<;>simp [h1,h2,h3,h4,h5]
def VS(s:Sgn):Array Value:=#[int i64 s.id,int i64 s.role,int i64 s.bar,int i64 s.mark,int i64 s.kind,int i64 s.side,int i64 s.dir,int i64 s.level,int i64 s.size,int i64 s.wth,int i64 s.fn,int i64 s.fd,int i64 s.tn,int i64 s.td]
theorem WP(x y:Int):decide (CQ x y<0)=decide (x<y):=by
 unfold CQ;by_cases h:x<y
 ·simp [h]
 ·by_cases h2:y<x<;>simp [h,h2]
theorem X9(s:Sgn)(w:World):Calls Tryz.prog 88 #[.agg (VS s)] w λe w'=>e=.returned (.bool (SG s))∧Below w.heap.size w w':=by
 have hK:Below w.heap.size w (w.alloc (.cells (VS s) 54)):=(Below.refl _ w).alloc (qn _) _;have g0:=heap_alloc_new w (.cells (VS s) 54);have hQ:w.heap.size<(w.alloc (.cells (VS s) 54)).heap.size:=by simp
 obtain ⟨r,hr⟩:∃r,SG s=r:=⟨_,rfl⟩;rw [hr];have hE:SG s=(Bh s.fn s.fd&&Bh s.tn s.td&&decide (0≤s.fn)&&decide (s.fn*s.td<s.tn*s.fd)&&decide (s.tn≤s.td)):=rfl;rw [hr] at hE;have HR:=qh hE;have hM:=qh hK;clear hr hE hK;unfold VS at *;go_enter Tryz.func88,Tryz.ntmps88
 have CC:Hid (∀W,Below (w.heap.size+1) (w.alloc (.cells (VS s) 54)) W→W.cell? ⟨w.heap.size,10,none⟩=some (int i64 s.fn)∧W.cell? ⟨w.heap.size,11,none⟩=some (int i64 s.fd)∧W.cell? ⟨w.heap.size,12,none⟩=some (int i64 s.tn)∧W.cell? ⟨w.heap.size,13,none⟩=some (int i64 s.td)):=qh λW h=>by
  have g:=(h.block w.heap.size (by omega)).trans (heap_alloc_new w (.cells (VS s) 54));exact ⟨Aa g 10 rfl,Aa g 11 rfl,Aa g 12 rfl,Aa g 13 rfl⟩
 unfold VS at CC;obtain ⟨c0,c1,c2,c3⟩:=CC.out _ (Below.refl _ _);have hN:(w.alloc (.cells #[int i64 s.id,int i64 s.role,int i64 s.bar,int i64 s.mark,int i64 s.kind,int i64 s.side,int i64 s.dir,int i64 s.level,int i64 s.size,int i64 s.wth,int i64 s.fn,int i64 s.fd,int i64 s.tn,int i64 s.td] 54)).heap.size=w.heap.size+1:=by simp
 go_wp2_with fail;generalize w.alloc (.cells #[int i64 s.id,int i64 s.role,int i64 s.bar,int i64 s.mark,int i64 s.kind,int i64 s.side,int i64 s.dir,int i64 s.level,int i64 s.size,int i64 s.wth,int i64 s.fn,int i64 s.fd,int i64 s.tn,int i64 s.td] 54)=w0 at *;clear g0;refine (VM s.fn s.fd w0).mono ?_;rintro e w1 ⟨rfl,hA⟩;rw [hN] at hA;have hO:=qh hA;have hF:=qh (hM.out.trans (hA.mono (by omega)));clear c0 c1 c2 c3;obtain ⟨c0,c1,c2,c3⟩:=CC.out _ hA;have hR:=hA.size;clear hA
 cases q1:Bh s.fn s.fd with
 | false =>
  have HF:=qh (show r=false by rw [HR.out,q1];rfl);go_wp2_with fail;go_ret;exact ⟨by rw [HF.out];rfl,hF.out⟩
 | true =>
 have Q1:=qh q1;clear q1;go_wp2_with fail;refine (VM s.tn s.td w1).mono ?_;rintro e w2 ⟨rfl,hG⟩;have hH:=qh (hO.out.trans (hG.mono (by omega)));have hI:=qh (hF.out.trans (hG.mono hF.out.size));clear c0 c1 c2 c3;obtain ⟨c0,c1,c2,c3⟩:=CC.out _ hH.out;clear hG
 cases q2:Bh s.tn s.td with
 | false =>
  have HF:=qh (show r=false by rw [HR.out,q2];simp);go_wp2_with fail;go_ret;exact ⟨by rw [HF.out];rfl,hI.out⟩
 | true =>
 have Q2:=qh q2;clear q2;have HC:=qh (VR s.fn s.fd s.tn s.td Q1.out Q2.out w2);go_wp2_with fail;refine HC.out.mono ?_;rintro e w3 ⟨rfl,hJ⟩;have hP:=qh (hH.out.trans (hJ.mono (by have:=hH.out.size;omega)));have hC:=qh (hI.out.trans (hJ.mono hI.out.size));clear c0 c1 c2 c3;obtain ⟨c0,c1,c2,c3⟩:=CC.out _ (by have:=hP.out;exact this);have hL:=WP (s.fn*s.td) (s.tn*s.fd);have hB:r=(decide (0≤s.fn)&&decide (CQ (s.fn*s.td) (s.tn*s.fd)<0)&&decide (s.tn≤s.td)):=by rw [HR.out,Q1.out,Q2.out,hL];rfl
 have hD:=qh hB;clear hJ HC hL hB;generalize CQ (s.fn*s.td) (s.tn*s.fd)=cm at *;by_cases k1:0≤s.fn
 ·by_cases k2:cm<0
  ·by_cases k3:s.tn≤s.td
   ·have HF:=qh (show r=true by rw [hD.out,decide_eq_true k1,decide_eq_true k2,decide_eq_true k3];rfl)
    go_wp2_with fail;go_ret;exact ⟨by rw [HF.out];rfl,hC.out⟩
   ·have HF:=qh (show r=false by rw [hD.out,decide_eq_false k3];simp)
    go_wp2_with fail;go_ret;refine ⟨?_,hC.out⟩;rw [HF.out]
    show Ending.returned (.bool (decide (s.tn≤s.td)))=_
    rw [decide_eq_false (by omega)]
  ·have HF:=qh (show r=false by rw [hD.out,decide_eq_false k2];simp)
   go_wp2_with fail;go_ret;exact ⟨by rw [HF.out];rfl,hC.out⟩
 ·have HF:=qh (show r=false by rw [hD.out,decide_eq_false k1];simp)
  go_wp2_with fail;go_ret;exact ⟨by rw [HF.out];rfl,hC.out⟩
end
section
open Go Go.RowKit Go.Deep
theorem Vz{n lo hi:Int}{v:Bool}(h:inB n lo hi=v)(w:World):Calls Tryz.prog 47 #[int i64 n,int i64 lo,int i64 hi] w λe w'=>e=.returned (.bool v)∧w'=w:=by
 have:=VX n lo hi w;rwa [h] at this
section
variable (id role bar mark side dir level size wth fn fd tn td roles:Int) (w:World)
theorem VD(o1 o2:Obj):Below w.heap.size w ((w.alloc o1).alloc o2):=((Below.refl _ w).alloc (qn _) _).alloc (by simp) _
theorem WT:Calls Tryz.prog 87 #[.agg #[int i64 id,int i64 role,int i64 bar,int i64 mark,int i64 1,int i64 side,int i64 dir,int i64 level,int i64 size,int i64 wth,int i64 fn,int i64 fd,int i64 tn,int i64 td],int i64 roles] w λe w'=>e=.returned (.bool (JD ⟨id,role,bar,mark,1,side,dir,level,size,wth,fn,fd,tn,td⟩ roles))∧Below w.heap.size w w':=by
 have hr:JD ⟨id,role,bar,mark,1,side,dir,level,size,wth,fn,fd,tn,td⟩ roles=(inB side 1 2&&inB dir 1 8&&inB size 1 16&&Vy 0 0 level 0 wth):=by
  simp only [JD,Vy];by_cases h0:level=0<;>by_cases h1:wth=0<;>cases inB side 1 2<;>cases inB dir 1 8<;>cases inB size 1 16<;>simp [h0,h1]
 have hq:=λw=>VG 0 0 level 0 wth w
 have HR:=qh hr;rw [hr];clear hr
 have hc:inB side 1 2=false∨inB side 1 2=true∧(inB dir 1 8=false∨inB dir 1 8=true∧(inB size 1 16=false∨inB size 1 16=true∧(Vy 0 0 level 0 wth=false∨Vy 0 0 level 0 wth=true))):=by
  cases inB side 1 2<;>cases inB dir 1 8<;>cases inB size 1 16<;>cases Vy 0 0 level 0 wth<;>simp
 rcases hc with q0|⟨q0,q1|⟨q1,q2|⟨q2,q9|q9⟩⟩⟩
 all_goals
  try simp only [q9] at hq
  go_enter Tryz.func87,Tryz.ntmps87
  go_wp2_with (go_at_call 47;refine (Vz (by assumption) _).mono ?_;rintro e w' ⟨rfl,rfl⟩);go_ret;exact ⟨by simp [*],VD w _ _⟩
theorem WU:Calls Tryz.prog 87 #[.agg #[int i64 id,int i64 role,int i64 bar,int i64 mark,int i64 2,int i64 side,int i64 dir,int i64 level,int i64 size,int i64 wth,int i64 fn,int i64 fd,int i64 tn,int i64 td],int i64 roles] w λe w'=>e=.returned (.bool (JD ⟨id,role,bar,mark,2,side,dir,level,size,wth,fn,fd,tn,td⟩ roles))∧Below w.heap.size w w':=by
 have hr:JD ⟨id,role,bar,mark,2,side,dir,level,size,wth,fn,fd,tn,td⟩ roles=(inB dir 1 8&&inB size 1 16&&Vy side 0 level 0 wth):=by
  simp only [JD,Vy];by_cases h0:side=0<;>by_cases h1:level=0<;>by_cases h2:wth=0<;>cases inB dir 1 8<;>cases inB size 1 16<;>simp [h0,h1,h2]
 have hq:=λw=>VG side 0 level 0 wth w
 have HR:=qh hr;rw [hr];clear hr
 have hc:inB dir 1 8=false∨inB dir 1 8=true∧(inB size 1 16=false∨inB size 1 16=true∧(Vy side 0 level 0 wth=false∨Vy side 0 level 0 wth=true)):=by
  cases inB dir 1 8<;>cases inB size 1 16<;>cases Vy side 0 level 0 wth<;>simp
 rcases hc with q0|⟨q0,q1|⟨q1,q9|q9⟩⟩
 all_goals
  try simp only [q9] at hq
  go_enter Tryz.func87,Tryz.ntmps87
  go_wp2_with (go_at_call 47;refine (Vz (by assumption) _).mono ?_;rintro e w' ⟨rfl,rfl⟩);go_ret;exact ⟨by simp [*],VD w _ _⟩
theorem WV:Calls Tryz.prog 87 #[.agg #[int i64 id,int i64 role,int i64 bar,int i64 mark,int i64 3,int i64 side,int i64 dir,int i64 level,int i64 size,int i64 wth,int i64 fn,int i64 fd,int i64 tn,int i64 td],int i64 roles] w λe w'=>e=.returned (.bool (JD ⟨id,role,bar,mark,3,side,dir,level,size,wth,fn,fd,tn,td⟩ roles))∧Below w.heap.size w w':=by
 have hr:JD ⟨id,role,bar,mark,3,side,dir,level,size,wth,fn,fd,tn,td⟩ roles=(inB side 1 2&&inB dir 0 8&&inB level 1 3&&Vy 0 0 0 size wth):=by
  simp only [JD,Vy];by_cases h0:size=0<;>by_cases h1:wth=0<;>cases inB side 1 2<;>cases inB dir 0 8<;>cases inB level 1 3<;>simp [h0,h1]
 have hq:=λw=>VG 0 0 0 size wth w
 have HR:=qh hr;rw [hr];clear hr
 have hc:inB side 1 2=false∨inB side 1 2=true∧(inB dir 0 8=false∨inB dir 0 8=true∧(inB level 1 3=false∨inB level 1 3=true∧(Vy 0 0 0 size wth=false∨Vy 0 0 0 size wth=true))):=by
  cases inB side 1 2<;>cases inB dir 0 8<;>cases inB level 1 3<;>cases Vy 0 0 0 size wth<;>simp
 rcases hc with q0|⟨q0,q1|⟨q1,q2|⟨q2,q9|q9⟩⟩⟩
 all_goals
  try simp only [q9] at hq
  go_enter Tryz.func87,Tryz.ntmps87
  go_wp2_with (go_at_call 47;refine (Vz (by assumption) _).mono ?_;rintro e w' ⟨rfl,rfl⟩);go_ret;exact ⟨by simp [*],VD w _ _⟩
theorem WW:Calls Tryz.prog 87 #[.agg #[int i64 id,int i64 role,int i64 bar,int i64 mark,int i64 4,int i64 side,int i64 dir,int i64 level,int i64 size,int i64 wth,int i64 fn,int i64 fd,int i64 tn,int i64 td],int i64 roles] w λe w'=>e=.returned (.bool (JD ⟨id,role,bar,mark,4,side,dir,level,size,wth,fn,fd,tn,td⟩ roles))∧Below w.heap.size w w':=by
 have hr:JD ⟨id,role,bar,mark,4,side,dir,level,size,wth,fn,fd,tn,td⟩ roles=(inB side 1 2&&inB dir 0 8&&inB level 1 3&&Vy 0 0 0 size wth):=by
  simp only [JD,Vy];by_cases h0:size=0<;>by_cases h1:wth=0<;>cases inB side 1 2<;>cases inB dir 0 8<;>cases inB level 1 3<;>simp [h0,h1]
 have hq:=λw=>VG 0 0 0 size wth w
 have HR:=qh hr;rw [hr];clear hr
 have hc:inB side 1 2=false∨inB side 1 2=true∧(inB dir 0 8=false∨inB dir 0 8=true∧(inB level 1 3=false∨inB level 1 3=true∧(Vy 0 0 0 size wth=false∨Vy 0 0 0 size wth=true))):=by
  cases inB side 1 2<;>cases inB dir 0 8<;>cases inB level 1 3<;>cases Vy 0 0 0 size wth<;>simp
 rcases hc with q0|⟨q0,q1|⟨q1,q2|⟨q2,q9|q9⟩⟩⟩
 all_goals
  try simp only [q9] at hq
  go_enter Tryz.func87,Tryz.ntmps87
  go_wp2_with (go_at_call 47;refine (Vz (by assumption) _).mono ?_;rintro e w' ⟨rfl,rfl⟩);go_ret;exact ⟨by simp [*],VD w _ _⟩
theorem WX:Calls Tryz.prog 87 #[.agg #[int i64 id,int i64 role,int i64 bar,int i64 mark,int i64 5,int i64 side,int i64 dir,int i64 level,int i64 size,int i64 wth,int i64 fn,int i64 fd,int i64 tn,int i64 td],int i64 roles] w λe w'=>e=.returned (.bool (JD ⟨id,role,bar,mark,5,side,dir,level,size,wth,fn,fd,tn,td⟩ roles))∧Below w.heap.size w w':=by
 have hr:JD ⟨id,role,bar,mark,5,side,dir,level,size,wth,fn,fd,tn,td⟩ roles=(inB dir 0 8&&inB level 1 3&&Vy side 0 0 size wth):=by
  simp only [JD,Vy];by_cases h0:side=0<;>by_cases h1:size=0<;>by_cases h2:wth=0<;>cases inB dir 0 8<;>cases inB level 1 3<;>simp [h0,h1,h2]
 have hq:=λw=>VG side 0 0 size wth w
 have HR:=qh hr;rw [hr];clear hr
 have hc:inB dir 0 8=false∨inB dir 0 8=true∧(inB level 1 3=false∨inB level 1 3=true∧(Vy side 0 0 size wth=false∨Vy side 0 0 size wth=true)):=by
  cases inB dir 0 8<;>cases inB level 1 3<;>cases Vy side 0 0 size wth<;>simp
 rcases hc with q0|⟨q0,q1|⟨q1,q9|q9⟩⟩
 all_goals
  try simp only [q9] at hq
  go_enter Tryz.func87,Tryz.ntmps87
  go_wp2_with (go_at_call 47;refine (Vz (by assumption) _).mono ?_;rintro e w' ⟨rfl,rfl⟩);go_ret;exact ⟨by simp [*],VD w _ _⟩
theorem WY:Calls Tryz.prog 87 #[.agg #[int i64 id,int i64 role,int i64 bar,int i64 mark,int i64 6,int i64 side,int i64 dir,int i64 level,int i64 size,int i64 wth,int i64 fn,int i64 fd,int i64 tn,int i64 td],int i64 roles] w λe w'=>e=.returned (.bool (JD ⟨id,role,bar,mark,6,side,dir,level,size,wth,fn,fd,tn,td⟩ roles))∧Below w.heap.size w w':=by
 have hr:JD ⟨id,role,bar,mark,6,side,dir,level,size,wth,fn,fd,tn,td⟩ roles=(inB size 1 7&&Vy side dir level 0 wth):=by
  simp only [JD,Vy];by_cases h0:side=0<;>by_cases h1:dir=0<;>by_cases h2:level=0<;>by_cases h3:wth=0<;>cases inB size 1 7<;>simp [h0,h1,h2,h3]
 have hq:=λw=>VG side dir level 0 wth w
 have HR:=qh hr;rw [hr];clear hr
 have hc:inB size 1 7=false∨inB size 1 7=true∧(Vy side dir level 0 wth=false∨Vy side dir level 0 wth=true):=by
  cases inB size 1 7<;>cases Vy side dir level 0 wth<;>simp
 rcases hc with q0|⟨q0,q9|q9⟩
 all_goals
  try simp only [q9] at hq
  go_enter Tryz.func87,Tryz.ntmps87
  go_wp2_with (go_at_call 47;refine (Vz (by assumption) _).mono ?_;rintro e w' ⟨rfl,rfl⟩);go_ret;exact ⟨by simp [*],VD w _ _⟩
theorem WZ:Calls Tryz.prog 87 #[.agg #[int i64 id,int i64 role,int i64 bar,int i64 mark,int i64 7,int i64 side,int i64 dir,int i64 level,int i64 size,int i64 wth,int i64 fn,int i64 fd,int i64 tn,int i64 td],int i64 roles] w λe w'=>e=.returned (.bool (JD ⟨id,role,bar,mark,7,side,dir,level,size,wth,fn,fd,tn,td⟩ roles))∧Below w.heap.size w w':=by
 have hr:JD ⟨id,role,bar,mark,7,side,dir,level,size,wth,fn,fd,tn,td⟩ roles=(inB wth 1 roles&&Vy side dir level size 0):=by
  simp only [JD,Vy];by_cases h0:side=0<;>by_cases h1:dir=0<;>by_cases h2:level=0<;>by_cases h3:size=0<;>cases inB wth 1 roles<;>simp [h0,h1,h2,h3]
 have hq:=λw=>VG side dir level size 0 w
 have HR:=qh hr;rw [hr];clear hr
 have hc:inB wth 1 roles=false∨inB wth 1 roles=true∧(Vy side dir level size 0=false∨Vy side dir level size 0=true):=by
  cases inB wth 1 roles<;>cases Vy side dir level size 0<;>simp
 rcases hc with q0|⟨q0,q9|q9⟩
 all_goals
  try simp only [q9] at hq
  go_enter Tryz.func87,Tryz.ntmps87
  go_wp2_with (go_at_call 47;refine (Vz (by assumption) _).mono ?_;rintro e w' ⟨rfl,rfl⟩);go_ret;exact ⟨by simp [*],VD w _ _⟩
theorem X5:Calls Tryz.prog 87 #[.agg #[int i64 id,int i64 role,int i64 bar,int i64 mark,int i64 8,int i64 side,int i64 dir,int i64 level,int i64 size,int i64 wth,int i64 fn,int i64 fd,int i64 tn,int i64 td],int i64 roles] w λe w'=>e=.returned (.bool (JD ⟨id,role,bar,mark,8,side,dir,level,size,wth,fn,fd,tn,td⟩ roles))∧Below w.heap.size w w':=by
 have hr:JD ⟨id,role,bar,mark,8,side,dir,level,size,wth,fn,fd,tn,td⟩ roles=(inB wth 1 roles&&Vy side dir level size 0):=by
  simp only [JD,Vy];by_cases h0:side=0<;>by_cases h1:dir=0<;>by_cases h2:level=0<;>by_cases h3:size=0<;>cases inB wth 1 roles<;>simp [h0,h1,h2,h3]
 have hq:=λw=>VG side dir level size 0 w
 have HR:=qh hr;rw [hr];clear hr
 have hc:inB wth 1 roles=false∨inB wth 1 roles=true∧(Vy side dir level size 0=false∨Vy side dir level size 0=true):=by
  cases inB wth 1 roles<;>cases Vy side dir level size 0<;>simp
 rcases hc with q0|⟨q0,q9|q9⟩
 all_goals
  try simp only [q9] at hq
  go_enter Tryz.func87,Tryz.ntmps87
  go_wp2_with (go_at_call 47;refine (Vz (by assumption) _).mono ?_;rintro e w' ⟨rfl,rfl⟩);go_ret;exact ⟨by simp [*],VD w _ _⟩
theorem X7:Calls Tryz.prog 87 #[.agg #[int i64 id,int i64 role,int i64 bar,int i64 mark,int i64 9,int i64 side,int i64 dir,int i64 level,int i64 size,int i64 wth,int i64 fn,int i64 fd,int i64 tn,int i64 td],int i64 roles] w λe w'=>e=.returned (.bool (JD ⟨id,role,bar,mark,9,side,dir,level,size,wth,fn,fd,tn,td⟩ roles))∧Below w.heap.size w w':=by
 have hr:JD ⟨id,role,bar,mark,9,side,dir,level,size,wth,fn,fd,tn,td⟩ roles=(inB side 1 2&&inB level 1 3&&Vy 0 dir 0 size wth):=by
  simp only [JD,Vy];by_cases h0:dir=0<;>by_cases h1:size=0<;>by_cases h2:wth=0<;>cases inB side 1 2<;>cases inB level 1 3<;>simp [h0,h1,h2]
 have hq:=λw=>VG 0 dir 0 size wth w
 have HR:=qh hr;rw [hr];clear hr
 have hc:inB side 1 2=false∨inB side 1 2=true∧(inB level 1 3=false∨inB level 1 3=true∧(Vy 0 dir 0 size wth=false∨Vy 0 dir 0 size wth=true)):=by
  cases inB side 1 2<;>cases inB level 1 3<;>cases Vy 0 dir 0 size wth<;>simp
 rcases hc with q0|⟨q0,q1|⟨q1,q9|q9⟩⟩
 all_goals
  try simp only [q9] at hq
  go_enter Tryz.func87,Tryz.ntmps87
  go_wp2_with (go_at_call 47;refine (Vz (by assumption) _).mono ?_;rintro e w' ⟨rfl,rfl⟩);go_ret;exact ⟨by simp [*],VD w _ _⟩
theorem WD(kind:Int)(hk:¬(1≤kind∧kind≤9)):Calls Tryz.prog 87 #[.agg #[int i64 id,int i64 role,int i64 bar,int i64 mark,int i64 kind,int i64 side,int i64 dir,int i64 level,int i64 size,int i64 wth,int i64 fn,int i64 fd,int i64 tn,int i64 td],int i64 roles] w λe w'=>e=.returned (.bool (JD ⟨id,role,bar,mark,kind,side,dir,level,size,wth,fn,fd,tn,td⟩ roles))∧Below w.heap.size w w':=by
 have hr:JD ⟨id,role,bar,mark,kind,side,dir,level,size,wth,fn,fd,tn,td⟩ roles=false:=by
  simp only [JD];rw [if_neg (by omega),if_neg (by omega),if_neg (by omega),if_neg (by omega),if_neg (by omega),if_neg (by omega),if_neg (by omega)]
 rw [hr];clear hr;have f1:(kind==1)=false:=by simp;omega
 have f2:(kind==2)=false:=by simp;omega
 have f3:(kind==3)=false:=by simp;omega
 have f4:(kind==4)=false:=by simp;omega
 have f5:(kind==5)=false:=by simp;omega
 have f6:(kind==6)=false:=by simp;omega
 have f7:(kind==7)=false:=by simp;omega
 have f8:(kind==8)=false:=by simp;omega
 have f9:(kind==9)=false:=by simp;omega
 clear hk;go_enter Tryz.func87,Tryz.ntmps87;go_wp2_with fail;go_ret;exact ⟨rfl,VD w _ _⟩
end
theorem Wt(s:Sgn)(roles:Int)(w:World):Calls Tryz.prog 87 #[.agg (VS s),int i64 roles] w λe w'=>e=.returned (.bool (JD s roles))∧Below w.heap.size w w':=by
 obtain ⟨id,role,bar,mark,kind,side,dir,level,size,wth,fn,fd,tn,td⟩:=s;unfold VS;by_cases hk:1≤kind∧kind≤9
 ·have:kind=1∨kind=2∨kind=3∨kind=4∨kind=5∨kind=6∨kind=7∨kind=8∨kind=9:=by omega
  rcases this with rfl|rfl|rfl|rfl|rfl|rfl|rfl|rfl|rfl
  ·exact WT id role bar mark side dir level size wth fn fd tn td roles w
  ·exact WU id role bar mark side dir level size wth fn fd tn td roles w
  ·exact WV id role bar mark side dir level size wth fn fd tn td roles w
  ·exact WW id role bar mark side dir level size wth fn fd tn td roles w
  ·exact WX id role bar mark side dir level size wth fn fd tn td roles w
  ·exact WY id role bar mark side dir level size wth fn fd tn td roles w
  ·exact WZ id role bar mark side dir level size wth fn fd tn td roles w
  ·exact X5 id role bar mark side dir level size wth fn fd tn td roles w
  ·exact X7 id role bar mark side dir level size wth fn fd tn td roles w
 ·exact WD id role bar mark side dir level size wth fn fd tn td roles w kind hk
end
section
open Go Go.RowKit Go.Deep
theorem Wk{s:Sgn}{roles:Int}(hf:JD s roles=true):inB s.kind 1 9=true:=by
 by_cases h:1≤s.kind∧s.kind≤9
 ·exact AL.2 h
 ·unfold JD at hf
  rw [if_neg (by omega),if_neg (by omega),if_neg (by omega),if_neg (by omega),if_neg (by omega),if_neg (by omega),if_neg (by omega)] at hf;cases hf
theorem WE(s:Sgn)(roles bars:Int):EW s roles bars=(inB s.role 0 (roles-1)&&inB s.bar 0 (bars-1)&&inB s.mark 1 3&&JD s roles&&SG s):=by
 cases hf:JD s roles with
 | false=>simp [EW,hf]
 | true=>simp [EW,hf,Wk hf]
def Xp(wd dp ta tb tc bars:Int)(rs:List Rol)(ss:List Sgn):Bool :=
 (inB wd 1 1000&&inB dp 1 1000&&EC ta tb tc&&decide (0≤ta)&&decide (0≤tb)&&decide (rs≠[]))&&rs.all (Fv wd dp)&&BV rs.length bars (-1) ss
theorem Wx(roles bars last:Int)(x:Sgn)(r:List Sgn):BV roles bars last (x::r)=((decide (last<x.id)&&decide (x.id≤1048576)&&EW x roles bars)&&BV roles bars x.id r):=rfl
structure WkBox(w0:World)(g:Nat)(ws:Array Value)(wr:World):Prop where
 below:Below w0.heap.size w0 wr
 row:wr.heap[g]?=some (.cells ws 39 (0,0))
theorem WkBox.next{w0:World}{g:Nat}{ws:Array Value}{wr w2:World}(h:WkBox w0 g ws wr)(hg:g<w0.heap.size)(hb:Below w0.heap.size wr w2):WkBox w0 g ws w2 :=
 ⟨h.below.trans hb,(hb.block _ hg).trans h.row⟩
theorem WkBox.dn{w0:World}{g:Nat}{ws:Array Value}{wr:World}(h:WkBox w0 g ws wr)(q:Nat):WkBox w0 g ws (wr.drewN q):=⟨VC h.below q,h.row⟩
theorem WF(wd dp ta tb tc bars:Int)(aR aS:Option Addr)(vT vP vX:Value)(nR cR nS cS:Nat)(rs:List Rol)(ss:List Sgn)(w:World)(HX:1≤bars)(HY:bars≤4096)(ha:rs.length=nR)(h3:ss.length=nS)(HZ:nR≤64)(Ha:nS≤4096)
  (hR:IsRow CT 4 w (.slice aR nR cR) rs) (hS:IsRow Av 14 w (.slice aS nS cS) ss) :
  Calls Tryz.prog 53 #[.agg #[int i64 wd,int i64 dp,int i64 ta,int i64 tb,int i64 tc,.slice aR nR cR,int i64 bars,vT,vP,vX,.slice aS nS cS]] w λe w'=>e=.returned (.bool (Xp wd dp ta tb tc bars rs ss))∧Below w.heap.size w w':=by
 obtain ⟨r,hr⟩:∃r,Xp wd dp ta tb tc bars rs ss=r:=⟨_,rfl⟩;rw [hr]
 have h4:r=((inB wd 1 1000&&inB dp 1 1000&&EC ta tb tc&&decide (0≤ta)&&decide (0≤tb)&&decide (0<nR))&&rs.all (Fv wd dp)&&BV nR bars (-1) ss):=by
  rw [← hr];unfold Xp;rw [ha]
  have:decide (rs≠[])=decide (0<nR):=by
   rw [← ha];cases rs<;>simp
  rw [this]
 have hc:=qh h4;clear hr h4;have hL:WkBox (w.alloc (.cells #[int i64 wd,int i64 dp,int i64 ta,int i64 tb,int i64 tc,.slice aR nR cR,int i64 bars,vT,vP,vX,.slice aS nS cS] 39)) w.heap.size #[int i64 wd,int i64 dp,int i64 ta,int i64 tb,int i64 tc,.slice aR nR cR,int i64 bars,vT,vP,vX,.slice aS nS cS] (w.alloc (.cells #[int i64 wd,int i64 dp,int i64 ta,int i64 tb,int i64 tc,.slice aR nR cR,int i64 bars,vT,vP,vX,.slice aS nS cS] 39)):=⟨Below.refl _ _,heap_alloc_new w _⟩;have h5:Below w.heap.size w (w.alloc (.cells #[int i64 wd,int i64 dp,int i64 ta,int i64 tb,int i64 tc,.slice aR nR cR,int i64 bars,vT,vP,vX,.slice aS nS cS] 39)):=(Below.refl _ w).alloc (qn _) _;have hT:w.heap.size<(w.alloc (.cells #[int i64 wd,int i64 dp,int i64 ta,int i64 tb,int i64 tc,.slice aR nR cR,int i64 bars,vT,vP,vX,.slice aS nS cS] 39)).heap.size:=by simp
 have hD:=qh h5;have HR:=qh hR;have HS:=qh hS;have h6:=qh ha;have hk:=qh h3;clear h5 hR hS ha h3;have c0:=Aa hL.row 0 rfl;have c1:=Aa hL.row 1 rfl;have c2:=Aa hL.row 2 rfl;have c3:=Aa hL.row 3 rfl;have c4:=Aa hL.row 4 rfl;have c5:=Aa hL.row 5 rfl;have HL:=qh hL;clear hL
 cases q1:inB wd 1 1000 with
 | false =>
  obtain rfl:r=false:=by rw [hc.out,q1];rfl
  go_enter Tryz.func53,Tryz.ntmps53
  go_wp2_with (go_at_call 47;refine (Vz (by assumption) _).mono ?_;rintro e w' ⟨rfl,rfl⟩);go_ret;exact ⟨rfl,hD.out⟩
 | true =>
 cases q2:inB dp 1 1000 with
 | false =>
  obtain rfl:r=false:=by rw [hc.out,q2];simp
  go_enter Tryz.func53,Tryz.ntmps53
  go_wp2_with (go_at_call 47;refine (Vz (by assumption) _).mono ?_;rintro e w' ⟨rfl,rfl⟩);go_ret;exact ⟨rfl,hD.out⟩
 | true =>
 go_enter Tryz.func53,Tryz.ntmps53
 go_wp2_with (go_at_call 47;refine (Vz (by assumption) _).mono ?_;rintro e w' ⟨rfl,rfl⟩);have HH:Hid (r=((EC ta tb tc&&decide (0≤ta)&&decide (0≤tb)&&decide (0<nR))&&rs.all (Fv wd dp)&&BV nR bars (-1) ss)):=qh (by rw [hc.out,q1,q2];rfl);clear q1 q2 hc;generalize w.alloc (.cells #[int i64 wd,int i64 dp,int i64 ta,int i64 tb,int i64 tc,.slice aR nR cR,int i64 bars,vT,vP,vX,.slice aS nS cS] 39)=w0 at *;refine (Wf ta tb tc w0).mono ?_;rintro e w1 ⟨rfl,hb⟩;have hU:=qh (HL.out.next (w2:=w1) hT hb);have hF:=qh (hD.out.trans (hb.mono hD.out.size));clear hb c0 c1 c2 c3 c4 c5;have c2:=Aa hU.out.row 2 rfl;have c3:=Aa hU.out.row 3 rfl;have c5:=Aa hU.out.row 5 rfl
 cases q3:EC ta tb tc with
 | false =>
  obtain rfl:r=false:=by rw [HH.out,q3];rfl
  go_wp2_with fail;go_ret;exact ⟨rfl,hF.out⟩
 | true =>
 cases q4:decide (ta<0) with
 | true =>
  obtain rfl:r=false:=by rw [HH.out,decide_eq_false (show ¬0≤ta by have:=of_decide_eq_true q4;omega)];simp
  go_wp2_with fail;go_ret;exact ⟨rfl,hF.out⟩
 | false =>
 cases q5:decide (tb<0) with
 | true =>
  obtain rfl:r=false:=by rw [HH.out,decide_eq_false (show ¬0≤tb by have:=of_decide_eq_true q5;omega)];simp
  go_wp2_with fail;go_ret;exact ⟨rfl,hF.out⟩
 | false =>
 by_cases q6:nR=0
 ·obtain rfl:r=false:=by rw [HH.out,decide_eq_false (show ¬0<nR by omega)];simp
  have hz:((nR:Int)==0)=true:=by simp;omega
  clear q6;go_wp2_with fail;go_ret;exact ⟨rfl,hF.out⟩
 have hz:((nR:Int)==0)=false:=by simp;omega
 have HA:Hid (r=(rs.all (Fv wd dp)&&BV nR bars (-1) ss)):=qh (by
  rw [HH.out,q3,decide_eq_true (show 0≤ta by have:=of_decide_eq_false q4;omega),decide_eq_true (show 0≤tb by have:=of_decide_eq_false q5;omega),decide_eq_true (show 0<nR by omega)];rfl)
 clear HH;go_wp2_with fail;clear q3 q4 q5 hz c2 c3 c5;have h7:Hid ((rs.take 0).all (Fv wd dp)=true):=qh rfl;go_loopw [3] (λiv wr=>∃i:Nat,i≤nR∧iv=int i64 i∧Hid ((rs.take i).all (Fv wd dp)=true)∧Hid (WkBox w0 w.heap.size #[int i64 wd,int i64 dp,int i64 ta,int i64 tb,int i64 tc,.slice aR nR cR,int i64 bars,vT,vP,vX,.slice aS nS cS] wr)) (λiv _=>nR-(intOf iv).toNat)
 case atStart=>exact ⟨0,Nat.zero_le _,rfl,h7,hU⟩
 case round =>
  clear hU h7 hF;obtain ⟨i,hi,rfl,hA,hB⟩:=hrel;have hM:=qh hB.out.below;have hE:=qh (hD.out.trans (hM.out.mono hD.out.size));have hV:=hM.out.size;have c0:=Aa hB.out.row 0 rfl;have c1:=Aa hB.out.row 1 rfl;have c5:=Aa hB.out.row 5 rfl;by_cases HM:i<nR
  ·have hl:(i:Int)<(nR:Int):=by omega
   obtain ⟨p,hs⟩:∃s,rs[i]?=some s:=⟨_,qg (by rw [h6.out];exact HM)⟩;obtain ⟨b,o,hm,hN,hO⟩:=HR.out.block hs;subst hm;obtain ⟨p0,p1,p2,p3⟩:=atR (hN.below hE.out hO) hs;have HN:Hid (Fv wd dp p=true→(rs.take (i+1)).all (Fv wd dp)=true):=qh λh=>Wi hA.out hs h
   have hn:Hid (Fv wd dp p=false→r=false):=qh λh=>by rw [HA.out,WN hs h];rfl
   have hH:=hB.out.next (w2:=wr.alloc (.cells #[.string ⟨p.name.toArray⟩,int i64 p.x,int i64 p.y,int i64 p.face] 73)) hT ((Below.refl _ _).alloc hV _)
   have x2:=heap_alloc_new wr (.cells #[.string ⟨p.name.toArray⟩,int i64 p.x,int i64 p.y,int i64 p.face] 73);have e0:=Aa hH.row 0 rfl;have e1:=Aa hH.row 1 rfl;clear hN hO hs hA hB HA;go_wp2_with fail;generalize wr.alloc (.cells #[.string ⟨p.name.toArray⟩,int i64 p.x,int i64 p.y,int i64 p.face] 73)=w5 at *;have l1:w5.cell? ⟨wr.heap.size,1,none⟩=some (int i64 p.x):=Aa x2 1 rfl;have l2:w5.cell? ⟨wr.heap.size,2,none⟩=some (int i64 p.y):=Aa x2 2 rfl;have l3:w5.cell? ⟨wr.heap.size,3,none⟩=some (int i64 p.face):=Aa x2 3 rfl;have hQ:=qh hH;have hC:=qh (hD.out.trans (hH.below.mono hD.out.size));clear c0 c1 c5 p0 p1 p2 p3 x2 hH;have h8:Fv wd dp p=(inB p.x 0 wd&&inB p.y 0 dp&&inB p.face 0 7):=rfl;have hd:=qh h8;clear h8
   cases q1:inB p.x 0 wd with
   | false =>
    obtain rfl:r=false:=hn.out (by rw [hd.out,q1];rfl)
    go_wp2_with (go_at_call 47;refine (Vz (by assumption) _).mono ?_;rintro e w' ⟨rfl,rfl⟩);go_ret;exact ⟨rfl,hC.out⟩
   | true =>
   cases q2:inB p.y 0 dp with
   | false =>
    obtain rfl:r=false:=hn.out (by rw [hd.out,q2];simp)
    go_wp2_with (go_at_call 47;refine (Vz (by assumption) _).mono ?_;rintro e w' ⟨rfl,rfl⟩);go_ret;exact ⟨rfl,hC.out⟩
   | true =>
   cases q3:inB p.face 0 7 with
   | false =>
    obtain rfl:r=false:=hn.out (by rw [hd.out,q3];simp)
    go_wp2_with (go_at_call 47;refine (Vz (by assumption) _).mono ?_;rintro e w' ⟨rfl,rfl⟩);go_ret;exact ⟨rfl,hC.out⟩
   | true =>
   have ho:=qh (HN.out (by rw [hd.out,q1,q2,q3];rfl))
   go_wp2_with (go_at_call 47;refine (Vz (by assumption) _).mono ?_;rintro e w' ⟨rfl,rfl⟩);go_roundw
   case rel=>exact ⟨i+1,by omega,by go_num,ho,hQ⟩
   case measure=>simp [intOf]<;>omega
  ·obtain rfl:i=nR:=by omega
   have hl:¬(i:Int)<(i:Int):=by omega
   have h9:Hid (r=BV i bars (-1) ss):=qh (by
    have:=hA.out;rw [List.take_of_length_le (by rw [h6.out];exact qn _)] at this
    rw [HA.out,this];rfl)
   have HB:Hid (r=BV i bars (-1) (ss.drop 0)):=h9;have HC:Hid (∀i0 p,0=i0+1→ss[i0]?=some p→p.id=(-1:Int)):=qh λi0 p h=>by omega
   clear hA HA;go_wp2_with fail;clear c0 c1 c5 hM hE hV;go_loopw [5] (λjv wr=>∃(j:Nat) (last:Int),j≤nS∧jv=int i64 j∧(j=0∧last=-1∨0<j∧0≤last)∧Hid (r=BV i bars last (ss.drop j))∧Hid (∀i0 p,j=i0+1→ss[i0]?=some p→p.id=last)∧Hid (WkBox w0 w.heap.size #[int i64 wd,int i64 dp,int i64 ta,int i64 tb,int i64 tc,.slice aR i cR,int i64 bars,vT,vP,vX,.slice aS nS cS] wr)) (λjv _=>nS-(intOf jv).toNat)
   case atStart=>exact ⟨0,-1,Nat.zero_le _,rfl,Or.inl ⟨rfl,rfl⟩,HB,HC,hB⟩
   case round =>
    clear HB HC h9 hB;obtain ⟨j,last,hj,rfl,hG,hA,hP,hB⟩:=hrel;have hM:=qh hB.out.below;have hE:=qh (hD.out.trans (hM.out.mono hD.out.size));have hV:=hM.out.size;have c10:=Aa hB.out.row 10 rfl;by_cases HO:j<nS
    ·have hp:(j:Int)<(nS:Int):=by omega
     obtain ⟨p,hs⟩:∃s,ss[j]?=some s:=⟨_,qg (by rw [hk.out];exact HO)⟩;obtain ⟨b,o,hm,hN,hO⟩:=HS.out.block hs;subst hm;obtain ⟨p0,p1,p2,p3,p4,p5,p6,p7,p8,p9,p10,p11,p12,p13⟩:=atS (hN.below hE.out hO) hs
     have he:Hid (r=((decide (last<p.id)&&decide (p.id≤1048576)&&(inB p.role 0 ((i:Int)-1)&&inB p.bar 0 (bars-1)&&inB p.mark 1 3&&JD p i&&SG p))&&BV i bars p.id (ss.drop (j+1)))):=qh (by
      rw [hA.out,Bm hs,Wx,WE])
     have HP:Hid (∀i0 q,j+1=i0+1→ss[i0]?=some q→q.id=p.id):=qh λi0 q h1 h2=>by
      obtain rfl:i0=j:=by omega
      rw [hs] at h2;cases h2;rfl
     have hH:=hB.out.next (w2:=wr.alloc (.cells #[int i64 p.id,int i64 p.role,int i64 p.bar,int i64 p.mark,int i64 p.kind,int i64 p.side,int i64 p.dir,int i64 p.level,int i64 p.size,int i64 p.wth,int i64 p.fn,int i64 p.fd,int i64 p.tn,int i64 p.td] 54)) hT ((Below.refl _ _).alloc hV _)
     have x2:=heap_alloc_new wr (.cells #[int i64 p.id,int i64 p.role,int i64 p.bar,int i64 p.mark,int i64 p.kind,int i64 p.side,int i64 p.dir,int i64 p.level,int i64 p.size,int i64 p.wth,int i64 p.fn,int i64 p.fd,int i64 p.tn,int i64 p.td] 54)
     have HD:Hid (0<j→∀W,Below w.heap.size w W→∃i0:Nat,(j:Int)-1=(i0:Int)∧(i0:Int)<(nS:Int)∧W.cell? ⟨b,o+i0*14,none⟩=some (int i64 last)):=qh λh W hW=>by
      obtain ⟨i0,rfl⟩:∃i0,j=i0+1:=⟨j-1,by omega⟩;obtain ⟨q,hq⟩:∃s,ss[i0]?=some s:=⟨_,qg (by rw [hk.out];omega)⟩;refine ⟨i0,by omega,by omega,?_⟩;rw [← hP.out i0 q rfl hq];exact (atS (hN.below hW hO) hq).1
     have HQ:wr.heap.size<(wr.alloc (.cells #[int i64 p.id,int i64 p.role,int i64 p.bar,int i64 p.mark,int i64 p.kind,int i64 p.side,int i64 p.dir,int i64 p.level,int i64 p.size,int i64 p.wth,int i64 p.fn,int i64 p.fd,int i64 p.tn,int i64 p.td] 54)).heap.size:=by simp
     clear hN hO hs hA hB hP;go_wp2_with fail;generalize wr.alloc (.cells #[int i64 p.id,int i64 p.role,int i64 p.bar,int i64 p.mark,int i64 p.kind,int i64 p.side,int i64 p.dir,int i64 p.level,int i64 p.size,int i64 p.wth,int i64 p.fn,int i64 p.fd,int i64 p.tn,int i64 p.td] 54)=w5 at *;have l0:w5.cell? ⟨wr.heap.size,0,none⟩=some (int i64 p.id):=Aa x2 0 rfl;have l1:w5.cell? ⟨wr.heap.size,1,none⟩=some (int i64 p.role):=Aa x2 1 rfl;have l2:w5.cell? ⟨wr.heap.size,2,none⟩=some (int i64 p.bar):=Aa x2 2 rfl;have l3:w5.cell? ⟨wr.heap.size,3,none⟩=some (int i64 p.mark):=Aa x2 3 rfl;have HE:=qh x2;have hQ:=qh hH;have hC:=qh (hD.out.trans (hH.below.mono hD.out.size));clear c10 p0 p1 p2 p3 p4 p5 p6 p7 p8 p9 p10 p11 p12 p13 x2 hH;have c5:=Aa hQ.out.row 5 rfl;have c6:=Aa hQ.out.row 6 rfl;have c10:=Aa hQ.out.row 10 rfl;generalize wr.heap.size=gw at *
     have hf:(0<j∧∃i0:Nat,(j:Int)-1=(i0:Int)∧(i0:Int)<(nS:Int)∧IntKind.i64.wrap (i0:Int)=(i0:Int)∧w5.cell? ⟨b,o+i0*14,none⟩=some (int i64 last))∨¬0<j:=by
      by_cases h:0<j
      ·obtain ⟨i0,a1,a2,a3⟩:=HD.out h w5 hC.out
       exact Or.inl ⟨h,i0,a1,a2,IntWalk.i64_in _ (by omega),a3⟩
      ·exact Or.inr h
     have Hb:IntKind.i64.wrap ((i:Int)-1)=(i:Int)-1:=IntWalk.i64_in _ (by omega);have Hc:IntKind.i64.wrap (bars-1)=bars-1:=IntWalk.i64_in _ (by omega);clear HD hM hE hV
     cases q1:inB p.id 0 1048576 with
     | false =>
      obtain rfl:r=false:=by
       rw [he.out];rw [BZ] at q1;rcases q1 with h|h
       ·rw [decide_eq_false (show ¬last<p.id by omega)];rfl
       ·rw [decide_eq_false (show ¬p.id≤1048576 by omega)];simp
      clear hG hf;go_quiet ((go_at_call 47;refine Calls.quiet_of_same (Vz (by assumption) _)));go_wp2_with fail;go_ret;exact ⟨rfl,VC hC.out _⟩
     | true =>
     have hid:=AL.1 q1;by_cases ht:0<j∧p.id≤last
     ·obtain ⟨hI,ht⟩:=ht
      obtain rfl:r=false:=by rw [he.out,decide_eq_false (show ¬last<p.id by omega)];rfl
      rcases hf with ⟨_,i0,hg,hJ,hh,pc⟩|hx
      ·have HT:(0:Int)<(j:Int):=by omega
       clear hG hid;go_quiet ((go_at_call 47;refine Calls.quiet_of_same (Vz (by assumption) _)));go_wp2_with fail;go_ret;exact ⟨rfl,VC hC.out _⟩
      ·exact absurd hI hx
     have hX:last<p.id:=by omega
     have hY:r=((inB p.role 0 ((i:Int)-1)&&inB p.bar 0 (bars-1)&&inB p.mark 1 3&&JD p i&&SG p)&&BV i bars p.id (ss.drop (j+1))):=by
      rw [he.out,decide_eq_true hX,decide_eq_true hid.2];rfl
     have hZ:=qh hY
     have hK:((0<j)∧(¬p.id≤last)∧∃i0:Nat,(j:Int)-1=(i0:Int)∧(i0:Int)<(nS:Int)∧IntKind.i64.wrap (i0:Int)=(i0:Int)∧w5.cell? ⟨b,o+i0*14,none⟩=some (int i64 last))∨¬0<j:=by
      rcases hf with ⟨h1,i0,h2⟩|h
      ·exact Or.inl ⟨by omega,by omega,i0,h2⟩
      ·exact Or.inr (by omega)
     have hu:0≤p.id:=hid.1;clear hY he hf ht hG hid hX
     cases q2:inB p.role 0 ((i:Int)-1) with
     | false =>
      obtain rfl:r=false:=by rw [hZ.out,q2];rfl
      rcases hK with ⟨hI,hv,i0,hg,hJ,hh,pc⟩|hI
      all_goals
       go_quiet ((go_at_call 47;refine Calls.quiet_of_same (Vz (by assumption) _)));go_wp2_with fail;go_ret;exact ⟨rfl,VC hC.out _⟩
     | true =>
     cases q3:inB p.bar 0 (bars-1) with
     | false =>
      obtain rfl:r=false:=by rw [hZ.out,q3];simp
      rcases hK with ⟨hI,hv,i0,hg,hJ,hh,pc⟩|hI
      all_goals
       go_quiet ((go_at_call 47;refine Calls.quiet_of_same (Vz (by assumption) _)));go_wp2_with fail;go_ret;exact ⟨rfl,VC hC.out _⟩
     | true =>
     cases q4:inB p.mark 1 3 with
     | false =>
      obtain rfl:r=false:=by rw [hZ.out,q4];simp
      rcases hK with ⟨hI,hv,i0,hg,hJ,hh,pc⟩|hI
      all_goals
       go_quiet ((go_at_call 47;refine Calls.quiet_of_same (Vz (by assumption) _)));go_wp2_with fail;go_ret;exact ⟨rfl,VC hC.out _⟩
     | true =>
     have hw:Hid (r=(JD p i&&SG p&&BV i bars p.id (ss.drop (j+1)))):=qh (by rw [hZ.out,q2,q3,q4];simp);have HF:=qh (λW=>Wt p i W);have HG:=qh (λW=>X9 p W);unfold VS at HF HG;have HI:=qh (λq=>hQ.out.dn q);clear hZ;rcases hK with ⟨hI,hv,i0,hg,hJ,hh,pc⟩|hI
     all_goals
      go_quiet ((go_at_call 47;refine Calls.quiet_of_same (Vz (by assumption) _)))
      go_wp2_with (refine wpList_load_row rfl 54 _ rfl gw rfl 54 _ (0,0) _ HE.out Tryz.underlying54 rfl (by kernel_rfl) ?_;simp only [Act.put,qD,qE,qF]);refine (HF.out _).mono ?_;rintro e w6 ⟨rfl,hy⟩;have h0:=qh ((HI.out _).next (w2:=w6) hT (hy.mono (HI.out _).below.size));have HU:=qh (hD.out.trans (h0.out.below.mono hD.out.size));have HV:=qh ((hy.block gw HQ).trans HE.out);clear hy c5 c6 c10 l0 l1 l2 l3
      cases q5:JD p i with
      | false =>
       obtain rfl:r=false:=by rw [hw.out,q5];rfl
       go_wp2_with fail;go_ret;exact ⟨rfl,HU.out⟩
      | true =>
      go_wp2_with (refine Dn rfl 54 _ rfl gw rfl 54 _ (0,0) _ HV.out Tryz.underlying54 rfl (by kernel_rfl) ?_;simp only [Act.put,qD,qE,qF]);refine (HG.out _).mono ?_;rintro e w7 ⟨rfl,HJ⟩;have HK:=qh (h0.out.next (w2:=w7) hT (HJ.mono h0.out.below.size));have HW:=qh (hD.out.trans (HK.out.below.mono hD.out.size));clear HJ
      cases q6:SG p with
      | false =>
       obtain rfl:r=false:=by rw [hw.out,q6];simp
       go_wp2_with fail;go_ret;exact ⟨rfl,HW.out⟩
      | true =>
      have ho:Hid (r=BV i bars p.id (ss.drop (j+1))):=qh (by rw [hw.out,q5,q6];rfl);clear q1 q2 q3 q4 q5 q6;go_wp2_with fail;go_roundw
      case rel=>exact ⟨j+1,p.id,by omega,by go_num,Or.inr ⟨by omega,hu⟩,ho,HP,HK⟩
      case measure=>simp [intOf]<;>omega
    ·obtain rfl:j=nS:=by omega
     have hp:¬(j:Int)<(j:Int):=by omega
     have HF:Hid (r=true):=qh (by
      have:=hA.out;rw [List.drop_of_length_le (by rw [hk.out];exact qn _)] at this
      rw [this];rfl)
     clear hA hB;go_wp2_with fail;go_ret;exact ⟨by rw [HF.out];rfl,hE.out⟩
theorem VQ(k:Wrk)(aR aT aP aX aS:Option Addr)(cR cT cP cX cS:Nat)(w:World)(hR:IsRow CT 4 w (.slice aR k.roles.length cR) k.roles)(hT:IsRow BS 3 w (.slice aT k.clock.tempos.length cT) k.clock.tempos)(hP:IsRow Cx 4 w (.slice aP k.clock.pauses.length cP) k.clock.pauses)(hX:IsRow Cw 4 w (.slice aX k.clock.spans.length cX) k.clock.spans)(hS:IsRow Av 14 w (.slice aS k.signs.length cS) k.signs):Calls Tryz.prog 18 #[.agg #[int i64 k.width,int i64 k.depth,int i64 k.ta,int i64 k.tb,int i64 k.tc,.slice aR k.roles.length cR,int i64 k.clock.bars,.slice aT k.clock.tempos.length cT,.slice aP k.clock.pauses.length cP,.slice aX k.clock.spans.length cX,.slice aS k.signs.length cS]] w λe w'=>e=.returned (int i64 (Dc k))∧Below w.heap.size w w':=by
 obtain ⟨r,hr⟩:∃r,Dc k=r:=⟨_,rfl⟩;rw [hr];have hA:64<k.roles.length∨4096<k.signs.length→r=2:=λh=>by rw [← hr,Sr h]
 have hB:k.roles.length≤64→k.signs.length≤4096→¬C8 k.clock=0→r=C8 k.clock:=λh1 h2 h=>by rw [← hr,← Sq h1 h2 h]
 have hC:k.roles.length≤64→k.signs.length≤4096→C8 k.clock=0→Gt k=false→r=190:=λh1 h2 h h3=>by rw [← hr,← Sp h1 h2 h h3]
 have hJ:k.roles.length≤64→k.signs.length≤4096→C8 k.clock=0→Gt k=true→r=0:=λh1 h2 h h3=>by rw [← hr,← TW h1 h2 h h3]
 have hK:C8 k.clock=0→1≤k.clock.bars∧k.clock.bars≤4096:=Ng;have hL:∀W,Below w.heap.size w W→Calls Tryz.prog 52 #[.agg #[int i64 k.clock.bars,.slice aT k.clock.tempos.length cT,.slice aP k.clock.pauses.length cP,.slice aX k.clock.spans.length cX]] W λe w'=>e=.returned (int i64 (C8 k.clock))∧Below W.heap.size W w' :=
  λW hb=>We _ _ _ _ _ _ _ _ _ _ _ _ _ W rfl rfl rfl (hT.below hb (qn _)) (hP.below hb (qn _)) (hX.below hb (qn _))
 have hM:∀W,Below w.heap.size w W→1≤k.clock.bars→k.clock.bars≤4096→k.roles.length≤64→k.signs.length≤4096→Calls Tryz.prog 53 #[.agg #[int i64 k.width,int i64 k.depth,int i64 k.ta,int i64 k.tb,int i64 k.tc,.slice aR k.roles.length cR,int i64 k.clock.bars,.slice aT k.clock.tempos.length cT,.slice aP k.clock.pauses.length cP,.slice aX k.clock.spans.length cX,.slice aS k.signs.length cS]] W λe w'=>e=.returned (.bool (Gt k))∧Below W.heap.size W w' :=
  λW hb h1 h2 h3 h4=>WF _ _ _ _ _ _ _ _ _ _ _ _ _ _ _ _ _ W h1 h2 rfl rfl h3 h4 (hR.below hb (qn _)) (hS.below hb (qn _))
 have hD:=qh hA;have hG:=qh hB;have hH:=qh hC;have hU:=qh hJ;have hV:=qh hK;have hW:=qh hL;have hY:=qh hM;clear hr hA hB hC hJ hK hL hM hR hT hP hX hS;generalize k.roles.length=nR at *;generalize k.signs.length=nS at *;generalize k.clock.tempos.length=nT at *;generalize k.clock.pauses.length=nP at *;generalize k.clock.spans.length=nX at *;generalize hZ:C8 k.clock=ce at *;generalize ha:Gt k=wb at *;clear hZ ha;generalize k.clock.bars=bars at *;generalize k.width=wd at *;generalize k.depth=dp at *;generalize k.ta=ta at *;generalize k.tb=tb at *;generalize k.tc=tc at *;have hg:=heap_alloc_new w (.cells #[int i64 wd,int i64 dp,int i64 ta,int i64 tb,int i64 tc,.slice aR nR cR,int i64 bars,.slice aT nT cT,.slice aP nP cP,.slice aX nX cX,.slice aS nS cS] 39);have hN:Below w.heap.size w (w.alloc (.cells #[int i64 wd,int i64 dp,int i64 ta,int i64 tb,int i64 tc,.slice aR nR cR,int i64 bars,.slice aT nT cT,.slice aP nP cP,.slice aX nX cX,.slice aS nS cS] 39)):=(Below.refl _ w).alloc (qn _) _;have hc:w.heap.size<(w.alloc (.cells #[int i64 wd,int i64 dp,int i64 ta,int i64 tb,int i64 tc,.slice aR nR cR,int i64 bars,.slice aT nT cT,.slice aP nP cP,.slice aX nX cX,.slice aS nS cS] 39)).heap.size:=by simp
 have hE:=qh hN;have HG:=qh hg;clear hN hg;by_cases q1:(64:Int)<(nR:Int)
 ·obtain rfl:r=2:=hD.out (Or.inl (by omega))
  clear HG;go_enter Tryz.func18,Tryz.ntmps18;go_wp2_with fail;go_ret;exact ⟨rfl,hE.out⟩
 by_cases q2:(4096:Int)<(nS:Int)
 ·obtain rfl:r=2:=hD.out (Or.inr (by omega))
  clear HG;go_enter Tryz.func18,Tryz.ntmps18;go_wp2_with fail;go_ret;exact ⟨rfl,hE.out⟩
 go_enter Tryz.func18,Tryz.ntmps18;go_wp2_with fail;have HQ:Hid (nR≤64∧nS≤4096):=qh (by omega);clear q1 q2;generalize w.alloc (.cells #[int i64 wd,int i64 dp,int i64 ta,int i64 tb,int i64 tc,.slice aR nR cR,int i64 bars,.slice aT nT cT,.slice aP nP cP,.slice aX nX cX,.slice aS nS cS] 39)=w0 at *;refine (hW.out w0 hE.out).mono ?_;rintro e w1 ⟨rfl,hI⟩;have hF:=qh (hE.out.trans (hI.mono hE.out.size));have hd:=qh ((hI.block _ hc).trans HG.out);clear hI;by_cases q3:ce=0
 ·have hz:(ce != 0)=false:=by simp [q3]
  go_wp2_with (refine wpList_load_row rfl 39 _ rfl w.heap.size rfl 39 _ (0,0) _ hd.out Tryz.underlying39 rfl (by kernel_rfl) ?_;simp only [Act.put,qD,qE,qF]);obtain ⟨b1,b2⟩:=hV.out q3;refine (hY.out w1 hF.out b1 b2 HQ.out.1 HQ.out.2).mono ?_;rintro e w2 ⟨rfl,hO⟩;have hQ:=qh (hF.out.trans (hO.mono hF.out.size));clear hO
  cases wb with
  | false =>
   obtain rfl:r=190:=hH.out HQ.out.1 HQ.out.2 q3 rfl;go_wp2_with fail;go_ret;exact ⟨rfl,hQ.out⟩
  | true =>
   obtain rfl:r=0:=hU.out HQ.out.1 HQ.out.2 q3 rfl;go_wp2_with fail;go_ret;exact ⟨rfl,hQ.out⟩
 ·have hz:(ce != 0)=true:=by simpa using q3
  obtain rfl:r=ce:=hG.out HQ.out.1 HQ.out.2 q3;clear q3;go_wp2_with fail;go_ret;exact ⟨rfl,hF.out⟩
end
end Go.Proofs.YtbkemlgfdklpfaaGreatDoor
