/- Contracts and plain laws on the way to the statement: part 32. -/
import Derived.Test.YtbkemlgfdklpfaaGreatDoorV30
import Derived.BigQuiet
import Derived.Deep.QuietTactic
import Derived.Deep.RegionHeld3
import Derived.Deep.RegionWith
import Derived.KernelRfl
import Derived.StillTailTactics
import Derived.IntWalk
import Derived.Defers
import Derived.Laws.Pointers
import Derived.Recover
import Derived.OwnWalk
import Derived.OneCell
import Derived.Test.YtbkemlgfdklpfaaGreatDoorV4
set_option autoImplicit true
set_option relaxedAutoImplicit true
set_option linter.unusedVariables false
set_option linter.unusedSimpArgs false
set_option maxRecDepth 100000
set_option maxHeartbeats 16000000
namespace Go.Proofs.YtbkemlgfdklpfaaGreatDoor
open Go.Value (int)
open Go.IntKind (i64)
section
open Go Go.RowKit
open Go.RowKit
theorem PT{n d:Int}(h:d<1∨1073741824<d):Bh n d=false:=by
 unfold Bh;rw [BZ.2 (by omega)];rfl
theorem Tx{n d:Int}(h:n < -1073741824∨1073741824<n):Bh n d=false:=by
 unfold Bh;rw [BZ.2 (show n < -1073741824∨_ by omega),Bool.and_false];rfl
theorem RF{n d:Int}(h1:1≤d)(h2:d≤1073741824)(h3:-1073741824≤n)(h4:n≤1073741824):Bh n d=decide (Nat.gcd n.natAbs d.natAbs=1):=by
 unfold Bh;rw [AL.2 ⟨h1,h2⟩,AL.2 ⟨h3,h4⟩];rfl
theorem AM{P:Program}(S:World→Prop){id:Nat}{Q:Exit→Act→World→Prop}{a:Act}{w:World}{l:List Oper}(n:Nat)(hm:P.follows .mixedOrders=true)(hB:Region.lexTailB .any l.toArray n=true)(hS:S w.drew)
  (h:∀w2,S w2→wpStill P l.toArray w2 (λa'=>wpList P l.toArray Q (l.drop n) a' w2) (l.take n) a):(Code.region id l.toArray true).wp P Q a w :=
 wp_region_still_tail n hm hB (h _ hS)
def D6(b:Bool)(c:Int):Int:=if b then 0 else c
theorem PU(n d:Int)(hA:d<1∨1073741824<d∨n < -1073741824∨1073741824<n)(w:World) :
  Calls Tryz.prog 77 #[.agg #[int i64 n,int i64 d]] w λe w'=>e=.returned (int i64 120)∧Below w.heap.size w w':=by
 by_cases h1:d<1
 ·clear hA
  go_enter Tryz.func77,Tryz.ntmps77;go_wp2_with fail;go_quiet (fail);go_wp2;go_ret;exact ⟨rfl,Aj ((Below.refl _ _).alloc (qn _) _) _⟩
 have f1:decide (d<1)=false:=by simpa using h1
 by_cases h2:1073741824<d
 ·clear hA h1
  go_enter Tryz.func77,Tryz.ntmps77;go_wp2_with fail;go_quiet (fail);go_wp2;go_ret;exact ⟨rfl,Aj ((Below.refl _ _).alloc (qn _) _) _⟩
 have f2:decide (1073741824<d)=false:=by simpa using h2
 by_cases h3:n < -1073741824
 ·clear hA h1 h2
  go_enter Tryz.func77,Tryz.ntmps77;go_wp2_with fail;go_quiet (fail);go_wp2;go_ret;exact ⟨rfl,Aj ((Below.refl _ _).alloc (qn _) _) _⟩
 have f3:decide (n < -1073741824)=false:=by simpa using h3
 have h4:1073741824<n:=by omega
 clear hA h1 h2 h3;go_enter Tryz.func77,Tryz.ntmps77;go_wp2_with fail;go_quiet (fail);go_wp2;go_ret;exact ⟨rfl,Aj ((Below.refl _ _).alloc (qn _) _) _⟩
theorem NY(n d:Int)(h1:1≤d)(h2:d≤1073741824)(h3:-1073741824≤n)(h4:n≤1073741824)(w:World) :
  Calls Tryz.prog 77 #[.agg #[int i64 n,int i64 d]] w λe w'=>e=.returned (int i64 (D6 (Bh n d) 120))∧Below w.heap.size w w':=by
 have f1:decide (d<1)=false:=by simpa using by omega
 have f2:decide (1073741824<d)=false:=by simpa using by omega
 have f3:decide (n < -1073741824)=false:=by simpa using by omega
 have f4:decide (1073741824<n)=false:=by simpa using by omega
 have hd:((d.natAbs:Nat):Int)=d:=by omega
 have HR:=qh (RF h1 h2 h3 h4);have HD:=qh hd;clear hd;go_enter Tryz.func77,Tryz.ntmps77;go_wp2_with fail;refine AM (λw2=>w2.cell? ⟨w.heap.size,0,none⟩=some (int i64 n)∧w2.cell? ⟨w.heap.size,1,none⟩=some (int i64 d)∧w.heap.size<w2.heap.size∧Below w.heap.size w w2) 25 (by kernel_rfl) (by kernel_rfl) ⟨by go_simp,by go_simp,by simp,((Below.refl _ _).alloc (qn _) _).drew⟩ ?_;intro w2 ⟨c0,c1,hC,hB⟩;simp only [List.take_succ_cons,List.take_zero,List.drop_succ_cons,List.drop_zero]
 repeat still_step
 still_call ((IC n h3 h4 _).mono λ_ _ ⟨e1,e2⟩=>⟨e1,e2.symm⟩)
 repeat still_step
 refine wpStill_nil ?_;have hu:IntKind.u64.wrap d=((d.natAbs:Nat):Int):=by rw [wrap_u64];omega
 rw [hu];clear hu;go_wp2_with fail;refine (Kq n.natAbs d.natAbs (by omega) (by omega) (by omega) w2).mono ?_;rintro e w3 ⟨rfl,hb⟩;have hA:=qh (hB.trans (hb.mono hB.size));clear hb;by_cases hg:Nat.gcd n.natAbs d.natAbs=1
 ·have f5:(((Nat.gcd n.natAbs d.natAbs:Nat):Int) != 1)=false:=by simpa using by omega
  have HG:=qh hg;clear hg;go_wp2_with fail;go_ret;exact ⟨AK (by rw [HR.out,decide_eq_true HG.out];rfl),hA.out⟩
 ·have f5:(((Nat.gcd n.natAbs d.natAbs:Nat):Int) != 1)=true:=by simpa using by omega
  have HG:=qh hg;clear hg;go_wp2_with fail;go_ret;exact ⟨AK (by rw [HR.out,decide_eq_false HG.out];rfl),hA.out⟩
theorem J5(n d:Int)(w:World) :
  Calls Tryz.prog 77 #[.agg #[int i64 n,int i64 d]] w λe w'=>e=.returned (int i64 (D6 (Bh n d) 120))∧Below w.heap.size w w':=by
 by_cases h:d<1∨1073741824<d∨n < -1073741824∨1073741824<n
 ·refine (PU n d h w).mono λe w' ⟨he,hb⟩=>⟨?_,hb⟩
  have:Bh n d=false:=by
   rcases h with h|h|h
   ·exact PT (Or.inl h)
   ·exact PT (Or.inr h)
   ·exact Tx h
  rw [he,this];rfl
 ·exact NY n d (by omega) (by omega) (by omega) (by omega) w
theorem JR{n d:Int}(h:Bh n d=true):1≤d∧d≤1073741824∧-1073741824≤n∧n≤1073741824:=by
 unfold Bh at h;simp only [Bool.and_eq_true,AL] at h;omega
theorem PE{a b:Int}(h1:-1073741824≤a)(h2:a≤1073741824)(h3:1≤b)(h4:b≤1073741824):-1152921504606846976≤a*b∧a*b≤1152921504606846976:=by
 constructor
 ·calc (-1152921504606846976:Int)=-1073741824*1073741824:=by decide
   _≤-1073741824*b:=by omega
   _≤a*b:=Int.mul_le_mul_of_nonneg_right h1 (by omega)
 ·calc a*b≤1073741824*b:=Int.mul_le_mul_of_nonneg_right h2 (by omega)
   _≤1152921504606846976:=by omega
def EJ(a b c d:Int):Value:=if Bh a b&&Bh c d then .tuple #[int i64 (CQ (a*d) (c*b)),int i64 0] else .tuple #[int i64 0,int i64 120]
theorem Ef(a b c d:Int)(w:World) :
  Calls Tryz.prog 46 #[.agg #[int i64 a,int i64 b],.agg #[int i64 c,int i64 d]] w λe w'=>e=.returned (EJ a b c d)∧Below w.heap.size w w':=by
 have hB:Below w.heap.size w ((w.alloc (.cells #[int i64 a,int i64 b] 52)).alloc (.cells #[int i64 c,int i64 d] 52)):=((Below.refl _ w).alloc (qn _) _).alloc (by simp) _;have hz:((w.alloc (.cells #[int i64 a,int i64 b] 52)).alloc (.cells #[int i64 c,int i64 d] 52)).heap.size=w.heap.size+2:=by simp
 have g0:((w.alloc (.cells #[int i64 a,int i64 b] 52)).alloc (.cells #[int i64 c,int i64 d] 52)).heap[w.heap.size]?=some (.cells #[int i64 a,int i64 b] 52 (0,0)):=by
  rw [Below.heap_alloc _ _ _ (by simp)];exact heap_alloc_new w _
 have g1:((w.alloc (.cells #[int i64 a,int i64 b] 52)).alloc (.cells #[int i64 c,int i64 d] 52)).heap[w.heap.size+1]?=some (.cells #[int i64 c,int i64 d] 52 (0,0)):=by
  have:=heap_alloc_new (w.alloc (.cells #[int i64 a,int i64 b] 52)) (.cells #[int i64 c,int i64 d] 52);simpa using this
 go_enter Tryz.func46,Tryz.ntmps46;go_wp2_with fail;generalize (w.alloc (.cells #[int i64 a,int i64 b] 52)).alloc (.cells #[int i64 c,int i64 d] 52)=w0 at *;refine (J5 a b w0).mono ?_;rintro e w1 ⟨rfl,b1⟩;have k0:=(b1.block _ (by omega)).trans g0;have k1:=(b1.block _ (by omega)).trans g1;have hF:=b1.size;have hD:=qh (hB.trans (b1.mono (by omega)));clear b1 g0 g1 hB;have K0:=qh k0;have K1:=qh k1;have d0:=Aa k0 0 rfl;have d1:=Aa k0 1 rfl;have e0:=Aa k1 0 rfl;have e1:=Aa k1 1 rfl;clear k0 k1
 cases hA:Bh a b with
 | false =>
  unfold D6;go_wp2_with fail;go_ret2;exact ⟨by unfold EJ;rw [hA];rfl,hD.out⟩
 | true =>
  have HA:=qh hA;clear hA;unfold D6;go_wp2_with fail;refine (J5 c d w1).mono ?_;rintro e w2 ⟨rfl,b2⟩;have k0:=(b2.block _ (by omega)).trans K0.out;have k1:=(b2.block _ (by omega)).trans K1.out;have hE:=qh (hD.out.trans (b2.mono (by omega)));clear d0 d1 e0 e1 b2;have d0:=Aa k0 0 rfl;have d1:=Aa k0 1 rfl;have e0:=Aa k1 0 rfl;have e1:=Aa k1 1 rfl;clear k0 k1
  cases hC:Bh c d with
  | false =>
   unfold D6;go_wp2_with fail;go_ret2;exact ⟨by unfold EJ;rw [HA.out,hC];rfl,hE.out⟩
  | true =>
   have HC:=qh hC;clear hC;obtain ⟨q1,q2,q3,q4⟩:=JR HA.out;obtain ⟨r1,r2,r3,r4⟩:=JR HC.out;obtain ⟨m1,m2⟩:=PE q3 q4 r1 r2;obtain ⟨m3,m4⟩:=PE r3 r4 q1 q2;clear q1 q2 q3 q4 r1 r2 r3 r4;unfold D6
   go_wp2_with (go_at_call 36;refine (G6 _ _ _).mono ?_;rintro e w' ⟨rfl,rfl⟩);go_ret2;exact ⟨by unfold EJ;rw [HA.out,HC.out];rfl,hE.out⟩
end
section
open Go Go.RowKit
open Go.RowKit
theorem EF{w:World}{a:Addr}{v:Value}(h:w.cell? a=some v):a.block<w.heap.size:=by
 rcases Nat.lt_or_ge a.block w.heap.size with h1|h1
 ·exact h1
 ·unfold World.cell? at h;simp [Array.getElem?_eq_none h1] at h
theorem Cu(n lo hi:Int)(w:World):Calls Tryz.prog 113 #[int i64 n,int i64 lo,int i64 hi] w λe w'=>e=.returned (.bool (inB n lo hi))∧w=w':=by
 go_enter Tryz.func113,Tryz.ntmps113;go_wp2
 all_goals
  go_ret;refine ⟨Az ?_,rfl⟩;unfold inB;rw [Bool.eq_iff_iff];simp;omega
def Gu(l:List Tmp):Prop:=l.Pairwise λa b=>a.bar<b.bar
theorem N4(l:List Tmp)(bar:Int):Do l bar≤l.length:=List.countP_le_length
theorem Ou{l:List Tmp}{bar:Int}(h:∀t∈l,bar<t.bar):Do l bar=0:=by
 unfold Do;rw [List.countP_eq_zero];intro t ht;have:=h t ht;simp;omega
theorem Lm{bar:Int}:∀{l:List Tmp} {i:Nat} {t:Tmp},Gu l→l[i]?=some t→(t.bar≤bar↔i<Do l bar)
 | [],_,_,_,h=>by simp at h
 | a::r,i,t,hs,h=>by
  have hA:=List.pairwise_cons.1 hs;by_cases ha:a.bar≤bar
  ·have e:Do (a::r) bar=Do r bar+1:=by unfold Do;rw [List.countP_cons_of_pos (by simpa using ha)]
   cases i with
   | zero=>simp at h;subst h;rw [e];constructor<;>intro _<;>omega
   | succ i =>
    rw [e,Lm hA.2 (by simpa using h)];omega
  ·have e:Do (a::r) bar=0:=by
    refine Ou λx hx=>?_
    rcases List.mem_cons.1 hx with rfl|hx
    ·omega
    ·have:=hA.1 x hx;omega
   have ht:¬t.bar≤bar:=by
    have hm:=List.mem_of_getElem? h;rcases List.mem_cons.1 hm with rfl|hm
    ·omega
    ·have:=hA.1 t hm;omega
   rw [e];constructor
   ·intro h;exact absurd h ht
   ·intro h;omega
open Go.RowKit
theorem DD(c:Int)(w:World):Calls Tryz.prog 112 #[.bool true,int i64 c] w λe w'=>e=.returned (.tuple #[])∧w=w':=by
 go_enter Tryz.func112,Tryz.ntmps112;go_wp2;go_end0;exact ⟨rfl,rfl⟩
theorem AN(c:Int)(w:World):Calls Tryz.prog 112 #[.bool false,int i64 c] w λe w'=>e=Ak c∧w=w':=by
 go_enter Tryz.func112,Tryz.ntmps112;go_wp2;exact ⟨rfl,rfl,rfl⟩
theorem atT{w:World}{b o i:Nat}{ts:List Tmp}{t:Tmp}(h:AtRow BS 3 w b o ts)(ht:ts[i]?=some t) :
  w.cell? ⟨b,o+i*3,none⟩=some (int i64 t.bar)∧w.cell? ⟨b,o+i*3+1,none⟩=some (int i64 t.ticks)∧w.cell? ⟨b,o+i*3+2,none⟩=some (int i64 t.step) :=
 ⟨h i t ht 0 _ rfl,h i t ht 1 _ rfl,h i t ht 2 _ rfl⟩
theorem Nz(i:Nat)(bar:Int)(C D b o n c:Nat)(ts:List Tmp)(t:Tmp)(w:World)(hn:ts.length=n)(ht:ts[i]?=some t)(hc:w.cell? ⟨C,1,none⟩=some (.slice (some ⟨b,o,none⟩) n c))(hd:w.cell? ⟨D,0,none⟩=some (int i64 bar))(hr:AtRow BS 3 w b o ts) :
  Calls Tryz.prog 143 #[int i64 i,.pointer (some ⟨C,0,none⟩),.pointer (some ⟨D,0,none⟩)] w λe w'=>e=.returned (.bool (decide (bar<t.bar)))∧∃k,w'=w.drewN k:=by
 have hB:i<n:=by rw [← hn];exact (ql.1 ht).1
 have hA:(0:Int)≤i∧(i:Int)<n:=by omega
 obtain ⟨p0,_,_⟩:=atT hr ht;have HT:=qh ht;have HN:=qh hn;clear ht hn hr;go_enter Tryz.func143,Tryz.ntmps143;go_wp2_with fail;go_quiet (fail);go_wp2;go_ret;exact ⟨rfl,_,rfl⟩
theorem Mh(bar:Int)(C D b o n c:Nat)(ts:List Tmp)(w:World)(hs:Gu ts)(hn:ts.length=n)(hm:n≤65536)(hc:w.cell? ⟨C,1,none⟩=some (.slice (some ⟨b,o,none⟩) n c))(hd:w.cell? ⟨D,0,none⟩=some (int i64 bar))(hr:AtRow BS 3 w b o ts) :
  Calls Tryz.prog 142 #[int i64 n,.func (.func 143) #[] #[.pointer (some ⟨C,0,none⟩),.pointer (some ⟨D,0,none⟩)]] w λe w'=>e=.returned (int i64 (Do ts bar))∧∃k,w'=w.drewN k:=by
 have hu:=N4 ts bar;have HS:=qh hs;have HN:=qh hn;have HC:=qh hc;have HD:=qh hd;have HR:=qh hr;rw [hn] at hu;clear hs hn hc hd hr;go_enter Tryz.func142,Tryz.ntmps142;go_wp2_with fail;go_loopw [5,6] (λx y wr=>∃i j k:Nat,x=int i64 i∧y=int i64 j∧i≤Do ts bar∧Do ts bar≤j∧j≤n∧wr=w.drewN k) (λx y _=>(intOf y-intOf x).toNat)
 case atStart=>exact ⟨0,n,0,rfl,rfl,Nat.zero_le _,hu,qn _,rfl⟩
 case round =>
  obtain ⟨i,j,k,rfl,rfl,h1,h2,h3,rfl⟩:=hrel;by_cases hE:i<j
  ·obtain ⟨t,ht⟩:∃t,ts[(i+j) / 2]?=some t:=⟨_,qg (by rw [HN.out];omega)⟩
   have hC:(i:Int)<(j:Int):=by omega
   obtain ⟨m,hD⟩:∃m:Nat,m=(i+j) / 2:=⟨_,rfl⟩;have hB:((i:Int)+(j:Int)) / 2=(m:Int):=by omega
   have HM:=qh hB;rw [← hD] at ht;have hA:=Lm (bar:=bar) HS.out ht;have hF:i≤m:=by omega
   have hG:m<j:=by omega
   have HT:=qh ht;clear ht hB hD;go_wp2_with fail;rw [HM.out];refine (Nz m bar C D b o n c ts t (w.drewN k) HN.out HT.out HC.out HD.out HR.out).mono ?_;rintro e w' ⟨rfl,k2,rfl⟩;by_cases hb:bar<t.bar
   ·have h4:Do ts bar≤m:=by
     rcases Nat.lt_or_ge m (Do ts bar) with h|h
     ·have:=hA.2 h;omega
     ·exact h
    clear hA;go_wp2_with fail;go_roundw
    case rel=>exact ⟨i,m,k+k2,rfl,rfl,h1,h4,by omega,by simp [World.drewN]⟩
    case measure=>simp [intOf];omega
   ·have h4:m<Do ts bar:=hA.1 (by omega)
    have hH:decide (bar<t.bar)=false:=by simpa using hb
    clear hA hb;go_wp2_with fail;go_roundw
    case rel=>exact ⟨m+1,j,k+k2,by go_num,rfl,by omega,h2,h3,by simp [World.drewN]⟩
    case measure=>simp [intOf];omega
  ·have hC:¬(i:Int)<(j:Int):=by omega
   obtain rfl:i=Do ts bar:=by omega
   go_wp2_with fail;go_ret;exact ⟨rfl,_,rfl⟩
theorem DZ{w:World}{o:Obj}{a:Addr}{v:Value}(h:w.cell? a=some v):(w.alloc o).drew.cell? a=some v :=
 (((Below.refl w.heap.size w).alloc (qn _) o).cell (p:=a) (EF h)).trans h
theorem Ik{w:World}{o:Obj}{b c:Nat}{ts:List Tmp}(h:AtRow BS 3 w b c ts)(hb:b<w.heap.size):AtRow BS 3 (w.alloc o).drew b c ts :=
 h.below (((Below.refl w.heap.size w).alloc (qn _) o).drew) hb
theorem Rg{a b:Int}(h1:-4096≤a)(h2:a≤4096)(h3:-65536≤b)(h4:b≤65536):-268435456≤a*b∧a*b≤268435456:=by
 have hx:(a*b).natAbs≤268435456:=by
  rw [Int.natAbs_mul]
  calc a.natAbs*b.natAbs≤4096*65536:=Nat.mul_le_mul (by omega) (by omega)
   _=268435456:=by decide
 omega
def Oz(ts:List Tmp)(bar:Int):Prop:=Gu ts∧0<Do ts bar∧0≤bar∧bar≤4096∧∀t∈ts,0≤t.bar∧t.bar≤4096∧-65536≤t.ticks∧t.ticks≤65536∧-65536≤t.step∧t.step≤65536
theorem Oq(bars bar:Int)(b o n c:Nat)(vp vs:Value)(ts:List Tmp)(w:World)(hn:ts.length=n)(hm:n≤65536)(hr:AtRow BS 3 w b o ts)(hb:b<w.heap.size)(hw:Oz ts bar) :
  Calls Tryz.prog 114 #[.agg #[int i64 bars,.slice (some ⟨b,o,none⟩) n c,vp,vs],int i64 bar] w λe w'=>e=.returned (int i64 (Ev ts bar))∧Below w.heap.size w w':=by
 obtain ⟨hs,hu,hT,hU,hB⟩:=hw;have hL:=N4 ts bar;rw [hn] at hL;obtain ⟨t,ht⟩:∃t,ts[Do ts bar-1]?=some t:=⟨_,qg (by omega)⟩
 have hI:Ev ts bar=t.ticks+(bar-t.bar)*t.step:=by
  unfold Ev;rw [List.getElem!_eq_getElem?_getD,ht];rfl
 obtain ⟨q1,q2,q3,q4,q5,q6⟩:=hB t (List.mem_of_getElem? ht);have hM:=qh hI;have HT:=qh ht;have HS:=qh hs;have HN:=qh hn;have HR:=qh hr;clear hI ht hs hn hr hB;have hC:Below w.heap.size w ((w.alloc (.cells #[int i64 bars,.slice (some ⟨b,o,none⟩) n c,vp,vs] 36)).alloc (.cells #[int i64 bar] 3)):=((Below.refl _ w).alloc (qn _) _).alloc (by simp) _;have hz:((w.alloc (.cells #[int i64 bars,.slice (some ⟨b,o,none⟩) n c,vp,vs] 36)).alloc (.cells #[int i64 bar] 3)).heap.size=w.heap.size+2:=by simp
 have g0:((w.alloc (.cells #[int i64 bars,.slice (some ⟨b,o,none⟩) n c,vp,vs] 36)).alloc (.cells #[int i64 bar] 3)).heap[w.heap.size]?=some (.cells #[int i64 bars,.slice (some ⟨b,o,none⟩) n c,vp,vs] 36 (0,0)):=by
  rw [Below.heap_alloc _ _ _ (by simp)];exact heap_alloc_new w _
 have g1:((w.alloc (.cells #[int i64 bars,.slice (some ⟨b,o,none⟩) n c,vp,vs] 36)).alloc (.cells #[int i64 bar] 3)).heap[w.heap.size+1]?=some (.cells #[int i64 bar] 3 (0,0)):=by
  have:=heap_alloc_new (w.alloc (.cells #[int i64 bars,.slice (some ⟨b,o,none⟩) n c,vp,vs] 36)) (.cells #[int i64 bar] 3);simpa using this
 have hV:∀(fn:Fn) (first cap:Array Value) (w:World),(Instr.makeFunc fn first cap).run Tryz.prog w=.ok (.func fn first cap) w:=λ_ _ _ _=>rfl
 go_enter Tryz.func114,Tryz.ntmps114;go_wp2_with fail;generalize (w.alloc (.cells #[int i64 bars,.slice (some ⟨b,o,none⟩) n c,vp,vs] 36)).alloc (.cells #[int i64 bar] 3)=w0 at *;have c1:w0.cell? ⟨w.heap.size,1,none⟩=some (.slice (some ⟨b,o,none⟩) n c):=Aa g0 1 rfl;have d0:w0.cell? ⟨w.heap.size+1,0,none⟩=some (int i64 bar):=Aa g1 0 rfl;have hD:=qh (HR.out.below hC hb);obtain ⟨p0,p1,p2⟩:=atT hD.out HT.out;have hN:b<w0.heap.size:=by omega
 have hW:w.heap.size<w0.heap.size:=by omega
 have hX:w.heap.size+1<w0.heap.size:=by omega
 have hO:=qh hC;clear hz g0 g1 hC;generalize hJ:Do ts bar-1=m at *;have hE:IntKind.i64.wrap (((Do ts bar:Nat):Int)-1)=(m:Int):=by rw [IntWalk.i64_in _ (by omega)];omega
 have hF:(0:Int)≤(m:Int)∧(m:Int)<n:=by omega
 have hG:=hF.1;have hH:=hF.2;have hP:((m:Int)).toNat=m:=by omega
 have hY:=qh hJ;clear hJ hF;have hQ:∀k o,(w0.drewN k).alloc o=(w0.alloc o).drewN k:=λ_ _=>rfl
 have hR:∀k o a v,((w0.alloc o).drewN k).setCell a v=((w0.alloc o).setCell a v).drewN k:=λ_ _ _ _=>by unfold World.drewN World.setCell;simp
 go_region_held3 (λw'=>w'.cell? ⟨w.heap.size,1,none⟩=some (.slice (some ⟨b,o,none⟩) n c)∧w'.cell? ⟨w.heap.size+1,0,none⟩=some (int i64 bar)∧w'.cell? ⟨b,o+m*3,none⟩=some (int i64 t.bar)∧w'.cell? ⟨b,o+m*3+1,none⟩=some (int i64 t.ticks)∧w'.cell? ⟨b,o+m*3+2,none⟩=some (int i64 t.step)∧Below w0.heap.size w0 w') (refine ⟨?_,?_,?_,?_,?_,?_⟩<;>first|assumption|exact (Below.refl _ _).drew|exact Aj (Below.refl _ _) _|exact (Aj (Below.refl _ _) _).alloc (by simp) _|exact ((Below.refl _ _).drew).alloc (by simp) _|exact Below.drew (by assumption)|exact Aj (by assumption) _|go_keep)
  (first|(go_at_call 142;refine (Mh bar (w.heap.size) (w.heap.size+1) b o n c ts _ HS.out HN.out hm ?_ ?_ ?_).mono ?_;(first|exact c1|exact DZ c1);(first|exact d0|exact DZ d0);(first|exact hD.out|exact Ik hD.out hN);rintro e w' ⟨rfl,k,rfl⟩))
 all_goals
  rename_i hA;have hK:=hA.2.2.2.2.2;have hS:=qh (hO.out.trans (hK.mono (by omega)));have y1:w0.cell? ⟨w.heap.size+1,0,none⟩=some (int i64 bar):=d0;clear hA hK hQ hR c1 p0 p1 p2 hE hP hG hH;obtain ⟨m1,m2⟩:=Rg (a:=bar-t.bar) (b:=t.step) (by omega) (by omega) q5 q6;go_wp2;go_ret;exact ⟨AK hM.out.symm,hS.out⟩
end
section
open Go Go.RowKit
open Go.RowKit
theorem atP{w:World}{b o i:Nat}{ts:List Pau}{t:Pau}(h:AtRow Cx 4 w b o ts)(ht:ts[i]?=some t) :
  w.cell? ⟨b,o+i*4,none⟩=some (int i64 t.bar)∧w.cell? ⟨b,o+i*4+1,none⟩=some (int i64 t.kind)∧w.cell? ⟨b,o+i*4+2,none⟩=some (int i64 t.lo)∧w.cell? ⟨b,o+i*4+3,none⟩=some (int i64 t.hi) :=
 ⟨h i t ht 0 _ rfl,h i t ht 1 _ rfl,h i t ht 2 _ rfl,h i t ht 3 _ rfl⟩
theorem atC{w:World}{b o i:Nat}{ts:List Con}{t:Con}(h:AtRow Cw 4 w b o ts)(ht:ts[i]?=some t) :
  w.cell? ⟨b,o+i*4,none⟩=some (int i64 t.frm)∧w.cell? ⟨b,o+i*4+1,none⟩=some (int i64 t.to)∧w.cell? ⟨b,o+i*4+2,none⟩=some (int i64 t.lo)∧w.cell? ⟨b,o+i*4+3,none⟩=some (int i64 t.hi) :=
 ⟨h i t ht 0 _ rfl,h i t ht 1 _ rfl,h i t ht 2 _ rfl,h i t ht 3 _ rfl⟩
def CZ(c:Clk):Ending:=if C8 c=0 then .returned (.tuple #[]) else Ak (C8 c)
theorem MF{c:Clk}(h:DL c=false):Ak 2=CZ c:=by unfold CZ C8;rw [h];rfl
theorem Bu{c:Clk}(h1:DL c=true)(h:E8 c=false):Ak 130=CZ c:=by unfold CZ C8;rw [h1,h];rfl
theorem Ta{c:Clk}(h1:DL c=true)(h:E8 c=true):Ending.returned (.tuple #[])=CZ c:=by unfold CZ C8;rw [h1,h];rfl
theorem GM{c:Clk}(h:C7 c=false):E8 c=false:=by unfold E8;rw [h];rfl
theorem GN{c:Clk}(h:DJ c.bars (-1) c.tempos=false):E8 c=false:=by unfold E8;rw [h];simp
theorem N9{c:Clk}(h:Dk c.tempos c.bars.toNat=false):E8 c=false:=by unfold E8;rw [h];simp
theorem Fa{c:Clk}(h:E0 c.bars (-1) c.pauses=false):E8 c=false:=by unfold E8;rw [h];simp
theorem E6{c:Clk}(h:c.spans.all (Gp c.bars)=false):E8 c=false:=by unfold E8;rw [h];simp
theorem SK{c:Clk}(h1:C7 c=true)(h2:DJ c.bars (-1) c.tempos=true)(h3:Dk c.tempos c.bars.toNat=true)(h4:E0 c.bars (-1) c.pauses=true)(h5:c.spans.all (Gp c.bars)=true):E8 c=true:=by
 unfold E8;rw [h1,h2,h3,h4,h5];rfl
theorem K7{l:List Tmp}{k n:Nat}(h:Dk l (k+1)=false)(hk:k+1≤n):Dk l n=false:=by
 induction n with
 | zero=>omega
 | succ n ih =>
  rcases Nat.lt_or_ge n (k+1) with h1|h1
  ·have:n=k:=by omega
   subst this;exact h
  ·unfold Dk;rw [ih h1];rfl
theorem Gk{l:List Tmp}{k:Nat}{b:Bool}(h:Dk l k=true)(hb:inB (Ev l k) 1 65536=b):Dk l (k+1)=b:=by
 unfold Dk;rw [h,hb];rfl
theorem Bm{α:Type}{l:List α}{k:Nat}{x:α}(h:l[k]?=some x):l.drop k=x::l.drop (k+1):=by
 obtain ⟨h1,h2⟩:=ql.1 h;rw [← h2];exact List.drop_eq_getElem_cons h1
theorem Gl{bars:Int}:∀{l:List Tmp} {last:Int},DJ bars last l=true→Gu l∧∀t∈l,last<t.bar∧t.bar≤bars-1∧-65536≤t.ticks∧t.ticks≤65536∧-65536≤t.step∧t.step≤65536
 | [],_,_=>⟨List.Pairwise.nil,λ_ h=>by cases h⟩
 | t::r,last,h=>by
  unfold DJ Ot at h;simp only [Bool.and_eq_true,AL] at h;obtain ⟨⟨⟨h1,h2⟩,h3⟩,h4⟩:=h;obtain ⟨i1,i2⟩:=Gl h4;refine ⟨List.pairwise_cons.2 ⟨λx hx=>(i2 x hx).1,i1⟩,λx hx=>?_⟩;rcases List.mem_cons.1 hx with rfl|hx
  ·omega
  ·have:=i2 x hx;omega
theorem Qr{l:List Tmp}{t:Tmp}{bar:Int}(h:l[0]?=some t)(h0:t.bar≤bar):0<Do l bar:=by
 unfold Do;exact List.countP_pos_iff.2 ⟨t,List.mem_of_getElem? h,by simpa using h0⟩
theorem Pi{c:Clk}{t:Tmp}(h:c.tempos[0]?=some t)(hb:¬t.bar=0):C7 c=false:=by
 unfold C7
 cases hc:c.tempos with
 | nil=>simp
 | cons a r=>rw [hc] at h;simp at h;subst h;simp [hb]
theorem QY{c:Clk}{t:Tmp}(h1:inB c.bars 1 4096=true)(h:c.tempos[0]?=some t)(hb:t.bar=0):C7 c=true:=by
 unfold C7;rw [h1]
 cases hc:c.tempos with
 | nil=>rw [hc] at h;simp at h
 | cons a r=>rw [hc] at h;simp at h;subst h;simp [hb]
theorem IY{c:Clk}(h:4096<c.tempos.length∨4096<c.pauses.length∨256<c.spans.length):DL c=false:=by
 unfold DL;rcases h with h|h|h
 ·rw [decide_eq_false (by omega:¬c.tempos.length≤4096)];rfl
 ·rw [decide_eq_false (by omega:¬c.pauses.length≤4096)];simp
 ·rw [decide_eq_false (by omega:¬c.spans.length≤256)];simp
theorem Pv{c:Clk}(h1:c.tempos.length≤4096)(h2:c.pauses.length≤4096)(h3:c.spans.length≤256):DL c=true:=by
 unfold DL;rw [decide_eq_true h1,decide_eq_true h2,decide_eq_true h3];rfl
theorem IF(bars:Int)(aT aP aS:Option Addr)(cT cP cS:Nat)(ts:List Tmp)(ps:List Pau)(ss:List Con)(w:World)
  (hT:IsRow BS 3 w (.slice aT ts.length cT) ts) (hP:IsRow Cx 4 w (.slice aP ps.length cP) ps) (hS:IsRow Cw 4 w (.slice aS ss.length cS) ss) (hB:(ts.length<ps.length∧4096<ps.length)∨(ps.length≤ts.length∧4096<ts.length)) :
  Calls Tryz.prog 80 #[.agg #[int i64 bars,.slice aT ts.length cT,.slice aP ps.length cP,.slice aS ss.length cS]] w λe w'=>e=CZ ⟨bars,ts,ps,ss⟩∧Below w.heap.size w w':=by
 rcases hB with ⟨hB,hC⟩|⟨hB,hC⟩
 all_goals
  generalize hA:(⟨bars,ts,ps,ss⟩:Clk)=clk;have k1:clk.bars=bars:=by rw [← hA]
  have k2:clk.tempos=ts:=by rw [← hA]
  have k3:clk.pauses=ps:=by rw [← hA]
  have k4:clk.spans=ss:=by rw [← hA]
  have K1:=qh k1;have K2:=qh k2;have K3:=qh k3;have K4:=qh k4;clear hA k1 k2 k3 k4;obtain ⟨_,_,_,lT,_⟩:=id hT;obtain ⟨_,_,_,lP,_⟩:=id hP;obtain ⟨_,_,_,lS,_⟩:=id hS;unfold maxLen at lT lP lS;have HT:=qh hT;have HP:=qh hP;have HS:=qh hS;clear hT hP hS;generalize hD:ts.length=nT at *;generalize hE:ps.length=nP at *;generalize hF:ss.length=nS at *;have NT:=qh hD;have NP:=qh hE;have NS:=qh hF;clear hD hE hF;have b0:Below w.heap.size w (w.alloc (.cells #[int i64 bars,.slice aT nT cT,.slice aP nP cP,.slice aS nS cS] 36)):=(Below.refl _ w).alloc (qn _) _;have g0:=heap_alloc_new w (.cells #[int i64 bars,.slice aT nT cT,.slice aP nP cP,.slice aS nS cS] 36);have hG:w.heap.size<(w.alloc (.cells #[int i64 bars,.slice aT nT cT,.slice aP nP cP,.slice aS nS cS] 36)).heap.size:=by simp
  go_enter Tryz.func80,Tryz.ntmps80;go_wp2_with fail;generalize w.alloc (.cells #[int i64 bars,.slice aT nT cT,.slice aP nP cP,.slice aS nS cS] 36)=w0 at *;have HB:=qh b0;have G0:=qh g0;clear b0;have c0:w0.cell? ⟨w.heap.size,0,none⟩=some (int i64 bars):=Aa g0 0 rfl;have c1:w0.cell? ⟨w.heap.size,1,none⟩=some (.slice aT nT cT):=Aa g0 1 rfl;have c2:w0.cell? ⟨w.heap.size,2,none⟩=some (.slice aP nP cP):=Aa g0 2 rfl;have c3:w0.cell? ⟨w.heap.size,3,none⟩=some (.slice aS nS cS):=Aa g0 3 rfl;clear g0;refine (AN 2 _).mono ?_;rintro e w' ⟨rfl,rfl⟩;unfold Ak;go_wp2_with fail;exact ⟨rfl,MF (IY (by rw [K2.out,K3.out,K4.out,NT.out,NP.out,NS.out];omega)),HB.out⟩
theorem IG(bars:Int)(aT aP aS:Option Addr)(cT cP cS:Nat)(ts:List Tmp)(ps:List Pau)(ss:List Con)(w:World)
  (hT:IsRow BS 3 w (.slice aT ts.length cT) ts) (hP:IsRow Cx 4 w (.slice aP ps.length cP) ps) (hS:IsRow Cw 4 w (.slice aS ss.length cS) ss) (hB:ts.length<ps.length∨ps.length≤ts.length) (hH:ps.length≤4096) (hF:ts.length≤4096) (hG:256<ss.length) :
  Calls Tryz.prog 80 #[.agg #[int i64 bars,.slice aT ts.length cT,.slice aP ps.length cP,.slice aS ss.length cS]] w λe w'=>e=CZ ⟨bars,ts,ps,ss⟩∧Below w.heap.size w w':=by
 rcases hB with hB|hB
 all_goals
  generalize hA:(⟨bars,ts,ps,ss⟩:Clk)=clk;have k1:clk.bars=bars:=by rw [← hA]
  have k2:clk.tempos=ts:=by rw [← hA]
  have k3:clk.pauses=ps:=by rw [← hA]
  have k4:clk.spans=ss:=by rw [← hA]
  have K1:=qh k1;have K2:=qh k2;have K3:=qh k3;have K4:=qh k4;clear hA k1 k2 k3 k4;obtain ⟨_,_,_,lT,_⟩:=id hT;obtain ⟨_,_,_,lP,_⟩:=id hP;obtain ⟨_,_,_,lS,_⟩:=id hS;unfold maxLen at lT lP lS;have HT:=qh hT;have HP:=qh hP;have HS:=qh hS;clear hT hP hS;generalize hC:ts.length=nT at *;generalize hD:ps.length=nP at *;generalize hE:ss.length=nS at *;have NT:=qh hC;have NP:=qh hD;have NS:=qh hE;clear hC hD hE;have b0:Below w.heap.size w (w.alloc (.cells #[int i64 bars,.slice aT nT cT,.slice aP nP cP,.slice aS nS cS] 36)):=(Below.refl _ w).alloc (qn _) _;have g0:=heap_alloc_new w (.cells #[int i64 bars,.slice aT nT cT,.slice aP nP cP,.slice aS nS cS] 36);have hI:w.heap.size<(w.alloc (.cells #[int i64 bars,.slice aT nT cT,.slice aP nP cP,.slice aS nS cS] 36)).heap.size:=by simp
  have fS:decide ((nS:Int)≤256)=false:=by simpa using by omega
  have fM:((nP:Nat):Int)≤4096:=by omega
  have fM2:((nT:Nat):Int)≤4096:=by omega
  go_enter Tryz.func80,Tryz.ntmps80;go_wp2_with fail;generalize w.alloc (.cells #[int i64 bars,.slice aT nT cT,.slice aP nP cP,.slice aS nS cS] 36)=w0 at *;have HB:=qh b0;have G0:=qh g0;clear b0;have c0:w0.cell? ⟨w.heap.size,0,none⟩=some (int i64 bars):=Aa g0 0 rfl;have c1:w0.cell? ⟨w.heap.size,1,none⟩=some (.slice aT nT cT):=Aa g0 1 rfl;have c2:w0.cell? ⟨w.heap.size,2,none⟩=some (.slice aP nP cP):=Aa g0 2 rfl;have c3:w0.cell? ⟨w.heap.size,3,none⟩=some (.slice aS nS cS):=Aa g0 3 rfl;clear g0;refine (AN 2 _).mono ?_;rintro e w' ⟨rfl,rfl⟩;unfold Ak;go_wp2_with fail;exact ⟨rfl,MF (IY (by rw [K2.out,K3.out,K4.out,NT.out,NP.out,NS.out];omega)),HB.out⟩
theorem II(bars:Int)(aT aP aS:Option Addr)(cT cP cS:Nat)(ts:List Tmp)(ps:List Pau)(ss:List Con)(w:World)
  (hT:IsRow BS 3 w (.slice aT ts.length cT) ts) (hP:IsRow Cx 4 w (.slice aP ps.length cP) ps) (hS:IsRow Cw 4 w (.slice aS ss.length cS) ss) (hQ:ts.length<ps.length∨ps.length≤ts.length) (hz:ps.length≤4096) (ho:ts.length≤4096) (hp:ss.length≤256) :
  Calls Tryz.prog 80 #[.agg #[int i64 bars,.slice aT ts.length cT,.slice aP ps.length cP,.slice aS ss.length cS]] w λe w'=>e=CZ ⟨bars,ts,ps,ss⟩∧Below w.heap.size w w':=by
 rcases hQ with hQ|hQ
 all_goals
  generalize hH:(⟨bars,ts,ps,ss⟩:Clk)=clk;have k1:clk.bars=bars:=by rw [← hH]
  have k2:clk.tempos=ts:=by rw [← hH]
  have k3:clk.pauses=ps:=by rw [← hH]
  have k4:clk.spans=ss:=by rw [← hH]
  have K1:=qh k1;have K2:=qh k2;have K3:=qh k3;have K4:=qh k4;clear hH k1 k2 k3 k4;obtain ⟨_,_,_,lT,_⟩:=id hT;obtain ⟨_,_,_,lP,_⟩:=id hP;obtain ⟨_,_,_,lS,_⟩:=id hS;unfold maxLen at lT lP lS;have HT:=qh hT;have HP:=qh hP;have HS:=qh hS;clear hT hP hS;generalize hc:ts.length=nT at *;generalize hd:ps.length=nP at *;generalize hf:ss.length=nS at *;have NT:=qh hc;have NP:=qh hd;have NS:=qh hf;clear hc hd hf;have b0:Below w.heap.size w (w.alloc (.cells #[int i64 bars,.slice aT nT cT,.slice aP nP cP,.slice aS nS cS] 36)):=(Below.refl _ w).alloc (qn _) _;have g0:=heap_alloc_new w (.cells #[int i64 bars,.slice aT nT cT,.slice aP nP cP,.slice aS nS cS] 36);have hh:w.heap.size<(w.alloc (.cells #[int i64 bars,.slice aT nT cT,.slice aP nP cP,.slice aS nS cS] 36)).heap.size:=by simp
  have fS:decide ((nS:Int)≤256)=true:=by simpa using by omega
  have fM:((nP:Nat):Int)≤4096:=by omega
  have fM2:((nT:Nat):Int)≤4096:=by omega
  have LIM:Hid (DL clk=true):=qh (Pv (by rw [K2.out,NT.out];omega) (by rw [K3.out,NP.out];omega) (by rw [K4.out,NS.out];omega));go_enter Tryz.func80,Tryz.ntmps80;go_wp2_with fail;generalize w.alloc (.cells #[int i64 bars,.slice aT nT cT,.slice aP nP cP,.slice aS nS cS] 36)=w0 at *;have HB:=qh b0;have G0:=qh g0;clear b0;have c0:w0.cell? ⟨w.heap.size,0,none⟩=some (int i64 bars):=Aa g0 0 rfl;have c1:w0.cell? ⟨w.heap.size,1,none⟩=some (.slice aT nT cT):=Aa g0 1 rfl;have c2:w0.cell? ⟨w.heap.size,2,none⟩=some (.slice aP nP cP):=Aa g0 2 rfl;have c3:w0.cell? ⟨w.heap.size,3,none⟩=some (.slice aS nS cS):=Aa g0 3 rfl;clear g0;refine (DD 2 _).mono ?_;rintro e w' ⟨rfl,rfl⟩;clear fS fM fM2;go_wp2_with fail;refine (Cu bars 1 4096 _).mono ?_;rintro e w' ⟨rfl,rfl⟩
  cases h1:inB bars 1 4096 with
  | false =>
   go_wp2_with fail;refine (AN 130 _).mono ?_;rintro e w' ⟨rfl,rfl⟩;unfold Ak;go_wp2_with fail;exact ⟨rfl,Bu LIM.out (GM (by unfold C7;rw [K1.out,h1];rfl)),HB.out⟩
  | true =>
   have H1:=qh h1;obtain ⟨hq,hr⟩:=AL.1 h1;clear h1;obtain ⟨B,hB⟩:∃B:Nat,bars=(B:Int):=⟨bars.toNat,by omega⟩;subst hB;have h3:B≤4096:=by omega
   have h4:1≤B:=by omega
   clear hq hr;by_cases hs:0<nT
   rotate_left
   ·have f0:¬(0:Int)<(nT:Int):=by omega
    have he:ts=[]:=List.length_eq_zero_iff.1 (by rw [NT.out];omega);go_wp2_with fail;refine (AN 130 _).mono ?_;rintro e w' ⟨rfl,rfl⟩;unfold Ak;go_wp2_with fail;exact ⟨rfl,Bu LIM.out (GM (by unfold C7;rw [K1.out,K2.out,he];simp)),HB.out⟩
   obtain ⟨t0,hO⟩:∃t,ts[0]?=some t:=⟨_,qg (by rw [NT.out];exact hs)⟩;obtain ⟨b,o,hu,hl,hR⟩:=HT.out.block hO;subst hu;have hU:=qh hl;clear hl;have hv:(0:Int)<(nT:Int):=by omega
   have p0:w0.cell? ⟨b,o,none⟩=some (int i64 t0.bar):=by
    have:=(atT (hU.out.below HB.out hR) hO).1;simpa using this
   have hV:=qh hO;clear hO;by_cases h0:t0.bar=0
   rotate_left
   ·have f0:(t0.bar==0)=false:=by simpa using h0
    have HH:=qh h0;clear h0;go_wp2_with fail;refine (AN 130 _).mono ?_;rintro e w' ⟨rfl,rfl⟩;unfold Ak;go_wp2_with fail;exact ⟨rfl,Bu LIM.out (GM (Pi (by rw [K2.out];exact hV.out) HH.out)),HB.out⟩
   have f0:(t0.bar==0)=true:=by simpa using h0
   have HH:=qh h0;clear h0;have hW:Hid (C7 clk=true):=qh (QY (by rw [K1.out];exact H1.out) (by rw [K2.out];exact hV.out) HH.out);go_wp2_with fail;refine (DD 130 _).mono ?_;rintro e w' ⟨rfl,rfl⟩;clear f0 p0;go_wp2_with fail;clear c0 c1 c2 c3;go_loopw [2,46] (λlv iv wr=>∃(k:Nat) (last:Int),k≤nT∧iv=int i64 k∧lv=int i64 last∧-1≤last∧last≤4096∧Hid (DJ B (-1) ts=DJ B last (ts.drop k))∧w.heap.size<wr.heap.size∧Hid (wr.heap[w.heap.size]?=some (.cells #[int i64 (B:Int),.slice (some ⟨b,o,none⟩) nT cT,.slice aP nP cP,.slice aS nS cS] 36 (0,0)))∧Hid (Below w.heap.size w wr)) (λ_ iv _=>nT-(intOf iv).toNat)
   case atStart=>exact ⟨0,-1,Nat.zero_le _,rfl,rfl,by omega,by omega,qh rfl,hh,G0,HB⟩
   case round =>
    clear HB G0 hh;obtain ⟨k,last,hk,rfl,rfl,hX,hY,hD,hG,hA,hC⟩:=hrel;by_cases hL:k<nT
    ·obtain ⟨t,ht⟩:∃t,ts[k]?=some t:=⟨_,qg (by rw [NT.out];exact hL)⟩
     obtain ⟨p0,p1,p2⟩:=atT (hU.out.below hC.out hR) ht;have hm:b<wr.heap.size:=by have:=hC.out.size;omega
     have hF:=qh ht;clear ht;have hM:(k:Int)<(nT:Int):=by omega
     have c0:wr.cell? ⟨w.heap.size,0,none⟩=some (int i64 (B:Int)):=Aa hA.out 0 rfl;have x0:=(Below.heap_alloc wr (.cells #[int i64 t.bar,int i64 t.ticks,int i64 t.step] 76) w.heap.size hG).trans hA.out;have x2:=heap_alloc_new wr (.cells #[int i64 t.bar,int i64 t.ticks,int i64 t.step] 76);have x3:Below w.heap.size w (wr.alloc (.cells #[int i64 t.bar,int i64 t.ticks,int i64 t.step] 76)):=hC.out.alloc (by omega) _;have x4:w.heap.size<(wr.alloc (.cells #[int i64 t.bar,int i64 t.ticks,int i64 t.step] 76)).heap.size:=by simp;omega
     have X0:=qh x0;have X2:=qh x2;have hE:=qh x3;clear x0 x2 x3;go_wp2_with fail;generalize wr.alloc (.cells #[int i64 t.bar,int i64 t.ticks,int i64 t.step] 76)=w5 at *;generalize wr.heap.size=gw at *;clear c0 p0 p1 p2;have c0:w5.cell? ⟨w.heap.size,0,none⟩=some (int i64 (B:Int)):=Aa X0.out 0 rfl;have l0:w5.cell? ⟨gw,0,none⟩=some (int i64 t.bar):=Aa X2.out 0 rfl;have l1:w5.cell? ⟨gw,1,none⟩=some (int i64 t.ticks):=Aa X2.out 1 rfl;have l2:w5.cell? ⟨gw,2,none⟩=some (int i64 t.step):=Aa X2.out 2 rfl;clear X2 hA hC;refine (Cu t.bar (last+1) ((B:Int)-1) _).mono ?_;rintro e w' ⟨rfl,rfl⟩
     cases q0:inB t.bar (last+1) ((B:Int)-1) with
     | false =>
      go_wp2_with fail;refine (AN 130 _).mono ?_;rintro e w' ⟨rfl,rfl⟩;unfold Ak;go_wp2_with fail;exact ⟨rfl,Bu LIM.out (GN (by rw [K1.out,K2.out,hD.out,Bm hF.out];simp [DJ,Ot,q0])),hE.out⟩
     | true =>
      have Q0:=qh q0;clear q0;go_wp2_with fail;refine (Cu t.ticks (-65536) 65536 _).mono ?_;rintro e w' ⟨rfl,rfl⟩
      cases q1:inB t.ticks (-65536) 65536 with
      | false =>
       go_wp2_with fail;refine (AN 130 _).mono ?_;rintro e w' ⟨rfl,rfl⟩;unfold Ak;go_wp2_with fail;exact ⟨rfl,Bu LIM.out (GN (by rw [K1.out,K2.out,hD.out,Bm hF.out];simp [DJ,Ot,Q0.out,q1])),hE.out⟩
      | true =>
       have Q1:=qh q1;clear q1;go_wp2_with fail;refine (Cu t.step (-65536) 65536 _).mono ?_;rintro e w' ⟨rfl,rfl⟩
       cases q2:inB t.step (-65536) 65536 with
       | false =>
        go_wp2_with fail;refine (AN 130 _).mono ?_;rintro e w' ⟨rfl,rfl⟩;unfold Ak;go_wp2_with fail;exact ⟨rfl,Bu LIM.out (GN (by rw [K1.out,K2.out,hD.out,Bm hF.out];simp [DJ,Ot,Q0.out,Q1.out,q2])),hE.out⟩
       | true =>
        have Q2:=qh q2;clear q2;go_wp2_with fail;refine (DD 130 _).mono ?_;rintro e w' ⟨rfl,rfl⟩;go_wp2_with fail;go_roundw
        case rel=>exact ⟨k+1,t.bar,by omega,by go_num,rfl,by have:=AL.1 Q0.out;omega,by have:=AL.1 Q0.out;omega,qh (by rw [hD.out,Bm hF.out];simp [DJ,Ot,Q0.out,Q1.out,Q2.out]),x4,X0,hE⟩
        case measure=>simp [intOf];omega
    ·obtain rfl:nT=k:=by omega
     have hK:¬(nT:Int)<(nT:Int):=by omega
     have TM:Hid (DJ B (-1) ts=true):=qh (by rw [hD.out,List.drop_of_length_le (by rw [NT.out];exact qn _)];rfl);clear hD hX hY;have ⟨hn,hN⟩:=Gl TM.out;have NW:Hid (∀j:Nat,j<B→Oz ts j):=qh (λj hj=>⟨hn,Qr hV.out (by rw [HH.out];omega),by omega,by omega,λt ht=>by have:=hN t ht;omega⟩);clear hn hN;have c0:wr.cell? ⟨w.heap.size,0,none⟩=some (int i64 (B:Int)):=Aa hA.out 0 rfl;go_wp2_with fail;clear c0 hK;go_loopw [74] (λiv wr=>∃j:Nat,j≤B∧iv=int i64 j∧Hid (Dk ts j=true)∧w.heap.size<wr.heap.size∧Hid (wr.heap[w.heap.size]?=some (.cells #[int i64 (B:Int),.slice (some ⟨b,o,none⟩) nT cT,.slice aP nP cP,.slice aS nS cS] 36 (0,0)))∧Hid (Below w.heap.size w wr)) (λiv _=>B-(intOf iv).toNat)
     case atStart=>exact ⟨0,Nat.zero_le _,rfl,qh rfl,hG,hA,hC⟩
     case round =>
      clear hA hC hG;obtain ⟨j,hj,rfl,hZ,hG,hA,hC⟩:=hrel;by_cases hw:j<B
      ·have hx:(j:Int)<(B:Int):=by omega
       have c0:wr.cell? ⟨w.heap.size,0,none⟩=some (int i64 (B:Int)):=Aa hA.out 0 rfl;have c1:wr.cell? ⟨w.heap.size,1,none⟩=some (.slice (some ⟨b,o,none⟩) nT cT):=Aa hA.out 1 rfl;have c2:wr.cell? ⟨w.heap.size,2,none⟩=some (.slice aP nP cP):=Aa hA.out 2 rfl;have c3:wr.cell? ⟨w.heap.size,3,none⟩=some (.slice aS nS cS):=Aa hA.out 3 rfl;go_wp2_with fail;refine (Oq B j b o nT cT (.slice aP nP cP) (.slice aS nS cS) ts wr NT.out (by omega) (hU.out.below hC.out hR) (by have:=hC.out.size;omega) (NW.out j hw)).mono ?_;rintro e w5 ⟨rfl,b5⟩;have hy:=b5.size;have x0:=(b5.block _ hG).trans hA.out;have hE:=qh (hC.out.trans (b5.mono (by omega)));have X0:=qh x0;have ha:w.heap.size<w5.heap.size:=by omega
       clear x0 b5 c0 c1 c2 c3 hA hC hy;generalize hg:Ev ts j=g;have HG:=qh hg;clear hg;go_wp2_with fail;refine (Cu g 1 65536 _).mono ?_;rintro e w' ⟨rfl,rfl⟩
       cases h2:inB g 1 65536 with
       | false =>
        go_wp2_with fail;refine (AN 130 _).mono ?_;rintro e w' ⟨rfl,rfl⟩;unfold Ak;go_wp2_with fail;exact ⟨rfl,Bu LIM.out (N9 (by rw [K2.out,K1.out,Int.toNat_natCast];exact K7 (Gk hZ.out (by rw [HG.out];exact h2)) (by omega))),hE.out⟩
       | true =>
        have H2:=qh h2;clear h2;go_wp2_with fail;refine (DD 130 _).mono ?_;rintro e w' ⟨rfl,rfl⟩;go_wp2_with fail;go_roundw
        case rel=>exact ⟨j+1,by omega,by go_num,qh (Gk hZ.out (by rw [HG.out];exact H2.out)),ha,X0,hE⟩
        case measure=>simp [intOf];omega
      ·obtain rfl:B=j:=by omega
       have hK:¬(B:Int)<(B:Int):=by omega
       have c2:wr.cell? ⟨w.heap.size,2,none⟩=some (.slice aP nP cP):=Aa hA.out 2 rfl;go_wp2_with fail;clear c2 hK;go_loopw [2,86] (λlv iv wr=>∃(i:Nat) (last:Int),i≤nP∧iv=int i64 i∧lv=int i64 last∧-1≤last∧last≤4096∧Hid (E0 B (-1) ps=E0 B last (ps.drop i))∧w.heap.size<wr.heap.size∧Hid (wr.heap[w.heap.size]?=some (.cells #[int i64 (B:Int),.slice (some ⟨b,o,none⟩) nT cT,.slice aP nP cP,.slice aS nS cS] 36 (0,0)))∧Hid (Below w.heap.size w wr)) (λ_ iv _=>nP-(intOf iv).toNat)
       case atStart=>exact ⟨0,-1,Nat.zero_le _,rfl,rfl,by omega,by omega,qh rfl,hG,hA,hC⟩
       case round =>
        clear hG hA hC;obtain ⟨i,last,hi,rfl,rfl,hX,hY,hD,hG,hA,hC⟩:=hrel;by_cases hL:i<nP
        ·obtain ⟨t,ht⟩:∃t,ps[i]?=some t:=⟨_,qg (by rw [NP.out];exact hL)⟩
         obtain ⟨bp,op,hb,hI,hJ⟩:=HP.out.block ht;subst hb;obtain ⟨p0,p1,p2,p3⟩:=atP (hI.below hC.out hJ) ht;have hm:bp<wr.heap.size:=by have:=hC.out.size;omega
         clear hI;have hF:=qh ht;clear ht;have hM:(i:Int)<(nP:Int):=by omega
         have c0:wr.cell? ⟨w.heap.size,0,none⟩=some (int i64 (B:Int)):=Aa hA.out 0 rfl;have x0:=(Below.heap_alloc wr (.cells #[int i64 t.bar,int i64 t.kind,int i64 t.lo,int i64 t.hi] 79) w.heap.size hG).trans hA.out;have x2:=heap_alloc_new wr (.cells #[int i64 t.bar,int i64 t.kind,int i64 t.lo,int i64 t.hi] 79);have x3:Below w.heap.size w (wr.alloc (.cells #[int i64 t.bar,int i64 t.kind,int i64 t.lo,int i64 t.hi] 79)):=hC.out.alloc (by omega) _;have x4:w.heap.size<(wr.alloc (.cells #[int i64 t.bar,int i64 t.kind,int i64 t.lo,int i64 t.hi] 79)).heap.size:=by simp;omega
         have X0:=qh x0;have X2:=qh x2;have hE:=qh x3;clear x0 x2 x3;go_wp2_with fail;generalize wr.alloc (.cells #[int i64 t.bar,int i64 t.kind,int i64 t.lo,int i64 t.hi] 79)=w5 at *;generalize wr.heap.size=gw at *;clear c0 p0 p1 p2 p3;have c0:w5.cell? ⟨w.heap.size,0,none⟩=some (int i64 (B:Int)):=Aa X0.out 0 rfl;have l0:w5.cell? ⟨gw,0,none⟩=some (int i64 t.bar):=Aa X2.out 0 rfl;have l1:w5.cell? ⟨gw,1,none⟩=some (int i64 t.kind):=Aa X2.out 1 rfl;have l2:w5.cell? ⟨gw,2,none⟩=some (int i64 t.lo):=Aa X2.out 2 rfl;have l3:w5.cell? ⟨gw,3,none⟩=some (int i64 t.hi):=Aa X2.out 3 rfl;clear X2 hA hC;refine (Cu t.bar (last+1) ((B:Int)-2) _).mono ?_;rintro e w' ⟨rfl,rfl⟩
         cases q0:inB t.bar (last+1) ((B:Int)-2) with
         | false =>
          go_wp2_with fail;refine (AN 130 _).mono ?_;rintro e w' ⟨rfl,rfl⟩;unfold Ak;go_wp2_with fail;exact ⟨rfl,Bu LIM.out (Fa (by rw [K1.out,K3.out,hD.out,Bm hF.out];simp [E0,NN,q0])),hE.out⟩
         | true =>
          have Q0:=qh q0;clear q0;go_wp2_with fail;refine (Cu t.kind 1 2 _).mono ?_;rintro e w' ⟨rfl,rfl⟩
          cases q1:inB t.kind 1 2 with
          | false =>
           go_wp2_with fail;refine (AN 130 _).mono ?_;rintro e w' ⟨rfl,rfl⟩;unfold Ak;go_wp2_with fail;exact ⟨rfl,Bu LIM.out (Fa (by rw [K1.out,K3.out,hD.out,Bm hF.out];simp [E0,NN,Q0.out,q1])),hE.out⟩
          | true =>
           have Q1:=qh q1;clear q1;go_wp2_with fail;refine (Cu t.lo 0 t.hi _).mono ?_;rintro e w' ⟨rfl,rfl⟩
           cases q2:inB t.lo 0 t.hi with
           | false =>
            go_wp2_with fail;refine (AN 130 _).mono ?_;rintro e w' ⟨rfl,rfl⟩;unfold Ak;go_wp2_with fail;exact ⟨rfl,Bu LIM.out (Fa (by rw [K1.out,K3.out,hD.out,Bm hF.out];simp [E0,NN,Q0.out,Q1.out,q2])),hE.out⟩
           | true =>
            have Q2:=qh q2;clear q2;go_wp2_with fail
            cases q3:decide (t.hi≤1048576) with
            | false =>
             refine (AN 130 _).mono ?_;rintro e w' ⟨rfl,rfl⟩;unfold Ak;go_wp2_with fail;exact ⟨rfl,Bu LIM.out (Fa (by rw [K1.out,K3.out,hD.out,Bm hF.out];simp [E0,NN,Q0.out,Q1.out,Q2.out,of_decide_eq_false q3])),hE.out⟩
            | true =>
             have Q3:=qh (of_decide_eq_true q3);clear q3;refine (DD 130 _).mono ?_;rintro e w' ⟨rfl,rfl⟩;go_wp2_with fail;go_roundw
             case rel=>exact ⟨i+1,t.bar,by omega,by go_num,rfl,by have:=AL.1 Q0.out;omega,by have:=AL.1 Q0.out;omega,qh (by rw [hD.out,Bm hF.out];simp [E0,NN,Q0.out,Q1.out,Q2.out,Q3.out]),x4,X0,hE⟩
             case measure=>simp [intOf];omega
        ·obtain rfl:nP=i:=by omega
         have hK:¬(nP:Int)<(nP:Int):=by omega
         have PM:Hid (E0 B (-1) ps=true):=qh (by rw [hD.out,List.drop_of_length_le (by rw [NP.out];exact qn _)];rfl);clear hD hX hY;have c3:wr.cell? ⟨w.heap.size,3,none⟩=some (.slice aS nS cS):=Aa hA.out 3 rfl;go_wp2_with fail;clear c3 hK;go_loopw [122] (λiv wr=>∃i:Nat,i≤nS∧iv=int i64 i∧Hid (ss.all (Gp B)=(ss.drop i).all (Gp B))∧w.heap.size<wr.heap.size∧Hid (wr.heap[w.heap.size]?=some (.cells #[int i64 (B:Int),.slice (some ⟨b,o,none⟩) nT cT,.slice aP nP cP,.slice aS nS cS] 36 (0,0)))∧Hid (Below w.heap.size w wr)) (λiv _=>nS-(intOf iv).toNat)
         case atStart=>exact ⟨0,Nat.zero_le _,rfl,qh rfl,hG,hA,hC⟩
         case round =>
          clear hG hA hC;obtain ⟨i,hi,rfl,hD,hG,hA,hC⟩:=hrel;by_cases hL:i<nS
          ·obtain ⟨t,ht⟩:∃t,ss[i]?=some t:=⟨_,qg (by rw [NS.out];exact hL)⟩
           obtain ⟨bp,op,hb,hI,hJ⟩:=HS.out.block ht;subst hb;obtain ⟨p0,p1,p2,p3⟩:=atC (hI.below hC.out hJ) ht;have hm:bp<wr.heap.size:=by have:=hC.out.size;omega
           clear hI;have hF:=qh ht;clear ht;have hM:(i:Int)<(nS:Int):=by omega
           have c0:wr.cell? ⟨w.heap.size,0,none⟩=some (int i64 (B:Int)):=Aa hA.out 0 rfl;have x0:=(Below.heap_alloc wr (.cells #[int i64 t.frm,int i64 t.to,int i64 t.lo,int i64 t.hi] 82) w.heap.size hG).trans hA.out;have x2:=heap_alloc_new wr (.cells #[int i64 t.frm,int i64 t.to,int i64 t.lo,int i64 t.hi] 82);have x3:Below w.heap.size w (wr.alloc (.cells #[int i64 t.frm,int i64 t.to,int i64 t.lo,int i64 t.hi] 82)):=hC.out.alloc (by omega) _;have x4:w.heap.size<(wr.alloc (.cells #[int i64 t.frm,int i64 t.to,int i64 t.lo,int i64 t.hi] 82)).heap.size:=by simp;omega
           have X0:=qh x0;have X2:=qh x2;have hE:=qh x3;clear x0 x2 x3;go_wp2_with fail;generalize wr.alloc (.cells #[int i64 t.frm,int i64 t.to,int i64 t.lo,int i64 t.hi] 82)=w5 at *;generalize wr.heap.size=gw at *;clear c0 p0 p1 p2 p3;have c0:w5.cell? ⟨w.heap.size,0,none⟩=some (int i64 (B:Int)):=Aa X0.out 0 rfl;have l0:w5.cell? ⟨gw,0,none⟩=some (int i64 t.frm):=Aa X2.out 0 rfl;have l1:w5.cell? ⟨gw,1,none⟩=some (int i64 t.to):=Aa X2.out 1 rfl;have l2:w5.cell? ⟨gw,2,none⟩=some (int i64 t.lo):=Aa X2.out 2 rfl;have l3:w5.cell? ⟨gw,3,none⟩=some (int i64 t.hi):=Aa X2.out 3 rfl;clear X2 hA hC;refine (Cu t.frm 0 (B:Int) _).mono ?_;rintro e w' ⟨rfl,rfl⟩
           cases q0:inB t.frm 0 (B:Int) with
           | false =>
            go_wp2_with fail;refine (AN 130 _).mono ?_;rintro e w' ⟨rfl,rfl⟩;unfold Ak;go_wp2_with fail;exact ⟨rfl,Bu LIM.out (E6 (by rw [K1.out,K4.out,hD.out,Bm hF.out];simp [Gp,q0])),hE.out⟩
           | true =>
            have Q0:=qh q0;clear q0;go_wp2_with fail;refine (Cu t.to 0 (B:Int) _).mono ?_;rintro e w' ⟨rfl,rfl⟩
            cases q1:inB t.to 0 (B:Int) with
            | false =>
             go_wp2_with fail;refine (AN 130 _).mono ?_;rintro e w' ⟨rfl,rfl⟩;unfold Ak;go_wp2_with fail;exact ⟨rfl,Bu LIM.out (E6 (by rw [K1.out,K4.out,hD.out,Bm hF.out];simp [Gp,Q0.out,q1])),hE.out⟩
            | true =>
             have Q1:=qh q1;clear q1;by_cases q2:t.frm=t.to
             ·have f2:(t.frm != t.to)=false:=by simpa using q2
              have Q2:=qh q2;clear q2;go_wp2_with fail;refine (AN 130 _).mono ?_;rintro e w' ⟨rfl,rfl⟩;unfold Ak;go_wp2_with fail;exact ⟨rfl,Bu LIM.out (E6 (by rw [K1.out,K4.out,hD.out,Bm hF.out];simp [Gp,Q1.out,Q2.out])),hE.out⟩
             have f2:(t.frm != t.to)=true:=by simpa using q2
             have Q2:=qh q2;clear q2;go_wp2_with fail;clear f2;refine (Cu t.lo (-1099511627776) t.hi _).mono ?_;rintro e w' ⟨rfl,rfl⟩
             cases q3:inB t.lo (-1099511627776) t.hi with
             | false =>
              go_wp2_with fail;refine (AN 130 _).mono ?_;rintro e w' ⟨rfl,rfl⟩;unfold Ak;go_wp2_with fail;exact ⟨rfl,Bu LIM.out (E6 (by rw [K1.out,K4.out,hD.out,Bm hF.out];simp [Gp,Q0.out,Q1.out,Q2.out,q3])),hE.out⟩
             | true =>
              have Q3:=qh q3;clear q3;go_wp2_with fail
              cases q4:decide (t.hi≤1099511627776) with
              | false =>
               refine (AN 130 _).mono ?_;rintro e w' ⟨rfl,rfl⟩;unfold Ak;go_wp2_with fail;exact ⟨rfl,Bu LIM.out (E6 (by rw [K1.out,K4.out,hD.out,Bm hF.out];simp [Gp,Q0.out,Q1.out,Q2.out,Q3.out,of_decide_eq_false q4])),hE.out⟩
              | true =>
               have Q4:=qh (of_decide_eq_true q4);clear q4;refine (DD 130 _).mono ?_;rintro e w' ⟨rfl,rfl⟩;go_wp2_with fail;go_roundw
               case rel=>exact ⟨i+1,by omega,by go_num,qh (by rw [hD.out,Bm hF.out];simp [Gp,Q0.out,Q1.out,Q2.out,Q3.out,Q4.out]),x4,X0,hE⟩
               case measure=>simp [intOf];omega
          ·obtain rfl:nS=i:=by omega
           have hK:¬(nS:Int)<(nS:Int):=by omega
           have SM:Hid (ss.all (Gp B)=true):=qh (by rw [hD.out,List.drop_of_length_le (by rw [NS.out];exact qn _)];rfl);clear hD;go_wp2_with fail;go_end0;exact ⟨Ta LIM.out (SK hW.out (by rw [K1.out,K2.out];exact TM.out) (by rw [K1.out,K2.out,Int.toNat_natCast];exact hZ.out) (by rw [K1.out,K3.out];exact PM.out) (by rw [K1.out,K4.out];exact SM.out)),hC.out⟩
end
section
open Go Go.RowKit
open Go.RowKit
theorem Ke(bars:Int)(aT aP aS:Option Addr)(cT cP cS:Nat)(ts:List Tmp)(ps:List Pau)(ss:List Con)(w:World)
  (hT:IsRow BS 3 w (.slice aT ts.length cT) ts) (hP:IsRow Cx 4 w (.slice aP ps.length cP) ps) (hS:IsRow Cw 4 w (.slice aS ss.length cS) ss) :
  Calls Tryz.prog 80 #[.agg #[int i64 bars,.slice aT ts.length cT,.slice aP ps.length cP,.slice aS ss.length cS]] w λe w'=>e=CZ ⟨bars,ts,ps,ss⟩∧Below w.heap.size w w':=by
 have h:ts.length<ps.length∨ps.length≤ts.length:=by omega
 by_cases h1:4096<ps.length∨4096<ts.length
 ·exact IF bars aT aP aS cT cP cS ts ps ss w hT hP hS (by omega)
 by_cases h2:256<ss.length
 ·exact IG bars aT aP aS cT cP cS ts ps ss w hT hP hS h (by omega) (by omega) h2
 exact II bars aT aP aS cT cP cS ts ps ss w hT hP hS h (by omega) (by omega) (by omega)
theorem L9(p:Addr)(w:World) :
  CallsD Tryz.prog 79 #[.pointer (some p)] .returning w λe u' w'=>e=.returned (.tuple #[])∧u'=.returning∧w=w':=by
 refine callsD_of_wpS Tryz.func79 rfl λc₀ cs hu=>?_
 apply wpS_seq;apply wpS_region;simp [wpOpsS,go_sem,recoverD,hu,Tryz.ntmps79,Exit.thenS];refine wpS_of_wp ?_;simp only [Array.replicate];go_wp2;cases c₀
 simp_all [bodyPostS,results,Tryz.results79]
theorem FR(B:Nat)(c:Int)(x:Value)(older:List PanicEntry)(w:World)(h0:w.heap[B]?=some (.cells #[x] 40 (0,0))) :
  CallsD Tryz.prog 79 #[.pointer (some ⟨B,0,none⟩)] (.panicking ({ v:=.iface 40 (int i64 c),recovered:=false }::older)) w λe u' w' =>
   e=.returned (.tuple #[])∧u'=.panicking ({ v:=.iface 40 (int i64 c),recovered:=true }::older)∧w'.heap[B]?=some (.cells #[int i64 c] 40 (0,0))∧Below B w w':=by
 have c0:=cell_of_one h0;have f0:=free_of_one h0;have H0:=qh h0;clear h0;refine callsD_of_wpS Tryz.func79 rfl λc₀ cs hu=>?_
 apply wpS_seq;apply wpS_region;simp [wpOpsS,go_sem,recoverD,hu,Tryz.ntmps79,Exit.thenS];refine wpS_of_wp ?_;have hA:=Jb;have hB:=Im;simp only [Array.replicate];go_wp2;exact ⟨rfl,_,rfl,.tuple #[],results_none rfl _ _ _,rfl,rfl,one_setCell H0.out,(Below.refl B w).setCell (p:=⟨B,0,none⟩) (qn _) _⟩
theorem Oo(t:Array Value)(B:Nat)(c:Int)(R:Ending→World→Prop)(w2:World)(x:Value)(hA:t.getD 2 undef=.pointer (some ⟨B,0,none⟩))
  (h0:w2.heap[B]?=some (.cells #[x] 40 (0,0))) (hR:∀w',Below B w2 w'→R (.returned (int i64 c)) w') :
  bodyPostD Tryz.prog Tryz.f49 R (Exit.panic [{ v:=.iface 40 (int i64 c),recovered:=false }])
   { tmps:=t,defers:=[{ target:=.fn (.func 79) #[.pointer (some ⟨B,0,none⟩)],args:=#[] }] } w2:=by
 have HR:=qh hR;clear hR;refine leaves_cons (f:=79) (args:=#[.pointer (some ⟨B,0,none⟩)]) (by simp) (by simp [go_sem]) ?_;refine (FR B c x [] _ h0).mono ?_;rintro e u' w'' ⟨rfl,rfl,k0,hB⟩;have c0:=cell_of_one k0;simp at hA;have HB:=qh hB;clear hB k0 h0;simp [Leaves,settle,results,Tryz.results49,go_sem,hA,c0];exact HR.out _ HB.out
theorem Qp(t:Array Value)(B:Nat)(R:Ending→World→Prop)(w2:World)(x:Value)(hA:t.getD 2 undef=.pointer (some ⟨B,0,none⟩))
  (h0:w2.cell? ⟨B,0,none⟩=some x) (hR:R (.returned x) w2) :
  bodyPostD Tryz.prog Tryz.f49 R Exit.ret { tmps:=t,defers:=[{ target:=.fn (.func 79) #[.pointer (some ⟨B,0,none⟩)],args:=#[] }] } w2:=by
 have HR:=qh hR;clear hR;simp at hA;refine leaves_cons (f:=79) (args:=#[.pointer (some ⟨B,0,none⟩)]) (by simp) (by simp [go_sem]) ?_;refine (L9 _ _).mono ?_;rintro e u' w'' ⟨rfl,rfl,rfl⟩;simp [Leaves,settle,results,Tryz.results49,go_sem,hA,h0];exact HR.out
theorem Is(bars:Int)(aT aP aS:Option Addr)(cT cP cS:Nat)(ts:List Tmp)(ps:List Pau)(ss:List Con)(w:World)
  (hT:IsRow BS 3 w (.slice aT ts.length cT) ts) (hP:IsRow Cx 4 w (.slice aP ps.length cP) ps) (hS:IsRow Cw 4 w (.slice aS ss.length cS) ss) :
  Calls Tryz.prog 49 #[.agg #[int i64 bars,.slice aT ts.length cT,.slice aP ps.length cP,.slice aS ss.length cS]] w λe w'=>e=.returned (int i64 (C8 ⟨bars,ts,ps,ss⟩))∧Below w.heap.size w w':=by
 have hB:∀(fn:Fn) (first cap:Array Value) (w:World),(Instr.makeFunc fn first cap).run Tryz.prog w=.ok (.func fn first cap) w:=λ_ _ _ _=>rfl
 have hv:=λ(w:World) h1 h2 h3=>Ke bars aT aP aS cT cP cS ts ps ss w h1 h2 h3
 generalize hA:(⟨bars,ts,ps,ss⟩:Clk)=clk at *;have HT:=qh hT;have HP:=qh hP;have HS:=qh hS;have HV:=qh hv;clear hT hP hS hA hv;generalize ts.length=nT at *;generalize ps.length=nP at *;generalize ss.length=nS at *;have b0:Below w.heap.size w ((w.alloc (.cells #[int i64 bars,.slice aT nT cT,.slice aP nP cP,.slice aS nS cS] 36)).alloc (.cells #[int i64 0] 40)):=((Below.refl _ w).alloc (qn _) _).alloc (by simp) _;have hz:((w.alloc (.cells #[int i64 bars,.slice aT nT cT,.slice aP nP cP,.slice aS nS cS] 36)).alloc (.cells #[int i64 0] 40)).heap.size=w.heap.size+2:=by simp
 have g0:((w.alloc (.cells #[int i64 bars,.slice aT nT cT,.slice aP nP cP,.slice aS nS cS] 36)).alloc (.cells #[int i64 0] 40)).heap[w.heap.size]?=some (.cells #[int i64 bars,.slice aT nT cT,.slice aP nP cP,.slice aS nS cS] 36 (0,0)):=by
  rw [Below.heap_alloc _ _ _ (by simp)];exact heap_alloc_new w _
 have g1:((w.alloc (.cells #[int i64 bars,.slice aT nT cT,.slice aP nP cP,.slice aS nS cS] 36)).alloc (.cells #[int i64 0] 40)).heap[w.heap.size+1]?=some (.cells #[int i64 0] 40 (0,0)):=by
  have:=heap_alloc_new (w.alloc (.cells #[int i64 bars,.slice aT nT cT,.slice aP nP cP,.slice aS nS cS] 36)) (.cells #[int i64 0] 40);simpa using this
 go_enter_defers Tryz.func49,Tryz.ntmps49;go_wp2_with fail;generalize (w.alloc (.cells #[int i64 bars,.slice aT nT cT,.slice aP nP cP,.slice aS nS cS] 36)).alloc (.cells #[int i64 0] 40)=w0 at *;refine (HV.out w0 (HT.out.below b0 (qn _)) (HP.out.below b0 (qn _)) (HS.out.below b0 (qn _))).mono ?_;rintro e w1 ⟨rfl,b1⟩;have y1:=(b1.block _ (by omega)).trans g1;have HB:=qh (b0.trans (b1.mono (by omega)));have Y1:=qh y1;clear b0 b1 g0 hz y1 g1;by_cases hc:C8 clk=0
 ·have HC:=qh hc
  unfold CZ;rw [if_pos hc];clear hc;have c1:=cell_of_one Y1.out;have f1:=free_of_one Y1.out;go_wp2_with fail;refine Qp _ (w.heap.size+1) _ _ (int i64 0) rfl (cell_of_one (one_setCell Y1.out)) ⟨AK HC.out.symm,HB.out.setCell (p:=⟨w.heap.size+1,0,none⟩) (by show w.heap.size≤w.heap.size+1;omega) _⟩
 ·have HC:=qh hc
  unfold CZ;rw [if_neg hc];unfold Ak;clear hc;go_wp2_with fail;refine Oo _ (w.heap.size+1) _ _ _ (int i64 0) rfl Y1.out (λw' hb=>⟨rfl,HB.out.trans (hb.mono (by omega))⟩)
end
section
structure Sgn where
 id:Int
 role:Int
 bar:Int
 mark:Int
 kind:Int
 side:Int
 dir:Int
 level:Int
 size:Int
 wth:Int
 fn:Int
 fd:Int
 tn:Int
 td:Int
 deriving DecidableEq
structure Wrk where
 width:Int
 depth:Int
 ta:Int
 tb:Int
 tc:Int
 roles:List Rol
 clock:Clk
 signs:List Sgn
 deriving DecidableEq
def EC(a b c:Int):Bool:=inB c 1 32768&&inB a (-c) c&&inB b (-c) c&&decide (a*a+b*b=c*c)&&decide (Nat.gcd (Nat.gcd a.natAbs b.natAbs) c.natAbs=1)
def Cl(n:Int)(used:Bool)(lo hi:Int):Bool:=if used then inB n lo hi else decide (n=0)
def JD(x:Sgn)(roles:Int):Bool :=
 if x.kind=1 then inB x.side 1 2&&inB x.dir 1 8&&decide (x.level=0)&&inB x.size 1 16&&decide (x.wth=0)
 else if x.kind=2 then decide (x.side=0)&&inB x.dir 1 8&&decide (x.level=0)&&inB x.size 1 16&&decide (x.wth=0)
 else if x.kind=3∨x.kind=4 then inB x.side 1 2&&inB x.dir 0 8&&inB x.level 1 3&&decide (x.size=0)&&decide (x.wth=0)
 else if x.kind=5 then decide (x.side=0)&&inB x.dir 0 8&&inB x.level 1 3&&decide (x.size=0)&&decide (x.wth=0)
 else if x.kind=6 then decide (x.side=0)&&decide (x.dir=0)&&decide (x.level=0)&&inB x.size 1 7&&decide (x.wth=0)
 else if x.kind=7∨x.kind=8 then decide (x.side=0)&&decide (x.dir=0)&&decide (x.level=0)&&decide (x.size=0)&&inB x.wth 1 roles
 else if x.kind=9 then inB x.side 1 2&&decide (x.dir=0)&&inB x.level 1 3&&decide (x.size=0)&&decide (x.wth=0)
 else false
def SG(x:Sgn):Bool:=Bh x.fn x.fd&&Bh x.tn x.td&&decide (0≤x.fn)&&decide (x.fn*x.td<x.tn*x.fd)&&decide (x.tn≤x.td)
def EW(x:Sgn)(roles bars:Int):Bool:=inB x.kind 1 9&&inB x.role 0 (roles-1)&&inB x.bar 0 (bars-1)&&inB x.mark 1 3&&JD x roles&&SG x
def Iq(roles bars last:Int)(x:Sgn):Bool:=decide (last<x.id)&&decide (x.id≤1048576)&&EW x roles bars
def BV(roles bars:Int):Int→List Sgn→Bool
 | _,[]=>true
 | last,x::r=>Iq roles bars last x&&BV roles bars x.id r
def Fv(width depth:Int)(r:Rol):Bool:=inB r.x 0 width&&inB r.y 0 depth&&inB r.face 0 7
def F8(w:Wrk):Bool:=decide (w.roles.length≤64)&&decide (w.signs.length≤4096)
def CO(w:Wrk):Bool:=inB w.width 1 1000&&inB w.depth 1 1000&&EC w.ta w.tb w.tc&&decide (0≤w.ta)&&decide (0≤w.tb)&&decide (w.roles≠[])
def Gt(w:Wrk):Bool:=CO w&&w.roles.all (Fv w.width w.depth)&&BV w.roles.length w.clock.bars (-1) w.signs
def Dc(w:Wrk):Int:=if F8 w then (if C8 w.clock≠0 then C8 w.clock else if Gt w then 0 else 190) else 2
end
section
open Go.RowKit
theorem QK(w:World)(o0 o1 o2:Obj):(((w.alloc o0).alloc o1).alloc o2).heap[w.heap.size]?=some o0∧(((w.alloc o0).alloc o1).alloc o2).heap[w.heap.size+1]?=some o1∧(((w.alloc o0).alloc o1).alloc o2).heap[w.heap.size+1+1]?=some o2 ∧
  (((w.alloc o0).alloc o1).alloc o2).heap.size=w.heap.size+3∧Below w.heap.size w (((w.alloc o0).alloc o1).alloc o2):=by
 refine ⟨?_,?_,?_,by simp,(((Below.refl _ w).alloc (qn _) _).alloc (by simp) _).alloc (by simp;omega) _⟩
 ·rw [Below.heap_alloc _ _ _ (by simp;omega),Below.heap_alloc _ _ _ (by simp)];exact heap_alloc_new w o0
 ·rw [Below.heap_alloc _ _ _ (by simp)];have:=heap_alloc_new (w.alloc o0) o1;simpa using this
 ·have:=heap_alloc_new ((w.alloc o0).alloc o1) o2;simpa using this
end
section
open Go Go.RowKit
theorem Bs(n lo hi:Int)(w:World):Calls Tryz.prog 57 #[int i64 n,int i64 lo,int i64 hi] w λe w'=>e=.returned (.bool (inB n lo hi))∧w=w':=by
 go_enter Tryz.func57,Tryz.ntmps57;go_wp2
 all_goals
  go_ret;refine ⟨Az ?_,rfl⟩;unfold inB;rw [Bool.eq_iff_iff];simp;omega
def Ai:Ending:=.panicked [{ v:=.iface 113 (.agg #[]),recovered:=false }]
theorem An(w:World):Calls Tryz.prog 56 #[.bool true] w λe w'=>e=.returned (.tuple #[])∧w=w':=by
 go_enter Tryz.func56,Tryz.ntmps56;go_wp2;go_end0;exact ⟨rfl,rfl⟩
theorem Al(w:World):Calls Tryz.prog 56 #[.bool false] w λe w'=>e=Ai∧w=w':=by
 go_enter Tryz.func56,Tryz.ntmps56;go_wp2;exact ⟨rfl,rfl,rfl⟩
def suitTab:List (Int×List Int):=[(1,[1,2,1,8,0,0,1,16]),(2,[0,0,1,8,0,0,1,16]),(3,[1,2,0,8,1,3,0,0]),(4,[1,2,0,8,1,3,0,0]),(5,[0,0,0,8,1,3,0,0]),(6,[0,0,0,0,0,0,1,7]),(7,[0,0,0,0,0,0,0,0]),(8,[0,0,0,0,0,0,0,0]),(9,[1,2,0,0,1,3,0,0])]
def Dw(k:Int):List Int:=((suitTab.find? λp=>decide (p.1=k)).map (·.2)).getD [0,0,0,0,0,0,0,0]
def DY(k:Int):Bool:=(suitTab.find? λp=>decide (p.1=k)).isSome
def L5(l:List Int):Value:=.agg (l.map λn=>int i64 n).toArray
def suitKv:List (Int×Value):=suitTab.map λp=>(p.1,L5 p.2)
theorem L6(k:Int):Au suitKv k=((suitTab.find? λp=>decide (p.1=k)).map (·.2)).map L5:=by
 unfold Au suitKv;rw [List.find?_map];simp only [Option.map_map]
 rfl
section
variable {κ:Type} [DecidableEq κ] {f:κ→Value} {d:TypeDesc} {P:Program} {K E:TypeId}
theorem AP(hf:KeyOf d f)(w:World){ops:Array Oper}{rest:List Oper}{o:Oper}{a:Act}{Q:Exit→Act→World→Prop}
  (hg:o.guard=none) (m x v:Operand) (t:TypeId) (hA:o.op=Op.insert t m x v∨o.op=Op.mapUpdate t m x v) (hT:P.underlying t=some (.map K E)) (hK:P.underlying K=some d) (b:Nat) (kvs kvs':List (κ×Value))
  (hm:a.eval m=.map (some b)) (h:MapAt f w b kvs) (hn:AT kvs) (k:κ) (hx:a.eval x=f k) (hp:Bn kvs k (a.eval v)=kvs')
  (hQ:∀W,MapAt f W b kvs'→(∀c,c≠b→W.heap[c]?=w.heap[c]?)→W.heap.size=w.heap.size→(∀n,n≤b→Below n w W)→wpList P ops Q rest (a.put o.dst undef) W) :
  wpList P ops Q (o::rest) a w:=by
 refine FV hf w hg m x v t hA hT hK b kvs hm h hn k hx λob hM=>?_
 rw [hp] at hM;exact hQ _ hM (λc hc=>by simp only [Array.getElem?_setIfInBounds];rw [if_neg (λe=>hc e.symm)]) (by simp) λn hb=>Bo w b ob hb
end
theorem AO{W:World}{B:Nat}{cs z:Array Value}{t:TypeId}{w:World}{n:Nat}(h:W.heap[B]?=some (.cells z t (0,0)))(hb:Below n w W)(hn:n≤B):∃W',W.setRow B cs=W'∧W'.heap[B]?=some (.cells cs t (0,0))∧Below n w W':=by
 refine ⟨_,rfl,?_,hb.os,hb.tape,hb.output,by simpa [World.setRow] using hb.size,λb hA=>?_⟩
 ·simp only [World.setRow]
  rw [Array.getElem?_modify,if_pos rfl,h];rfl
 ·simp only [World.setRow]
  rw [Array.getElem?_modify,if_neg (by omega)];exact hb.block b hA
theorem BL(j:Nat):AT (suitKv.take j):=by
 unfold AT;have h:(suitKv.map (·.1)).Nodup:=by decide
 rw [List.map_take];exact h.sublist (List.take_sublist ..)
theorem FA(k:Int):∃a b c d e f g h:Int,Dw k=[a,b,c,d,e,f,g,h]:=by
 unfold Dw suitTab;simp only [List.find?]
 repeat' split
 all_goals exact ⟨_,_,_,_,_,_,_,_,rfl⟩
theorem Om(k:Int)(w:World):Calls Tryz.prog 132 #[int i64 k] w λe w'=>e=.returned (.tuple #[L5 (Dw k),.bool (DY k)])∧Below w.heap.size w w':=by
 obtain ⟨W1,hP,gW1,bW1,sW1⟩:=Af w #[int i64 0,int i64 0,int i64 0,int i64 0,int i64 0,int i64 0,int i64 0,int i64 0] 197;obtain ⟨W2,hQ,mW2,bW2,kW2⟩:∃W2,W1.alloc (.map #[] 0)=W2∧MapAt kI W2 W1.heap.size []∧Below W1.heap.size W1 W2∧W2.heap[w.heap.size]?=W1.heap[w.heap.size]?:=⟨_,rfl,MapAt.new W1,(Below.refl _ _).alloc (qn _) _,Below.heap_alloc _ _ _ (by omega)⟩;obtain ⟨r0,r1,r2,r3,r4,r5,r6,r7,hr⟩:=FA k;have hv:L5 (Dw k)=.agg #[int i64 r0,int i64 r1,int i64 r2,int i64 r3,int i64 r4,int i64 r5,int i64 r6,int i64 r7]:=by rw [hr];rfl
 have hI:(Au (suitKv.take 9) k).getD (.agg #[int i64 0,int i64 0,int i64 0,int i64 0,int i64 0,int i64 0,int i64 0,int i64 0])=.agg #[int i64 r0,int i64 r1,int i64 r2,int i64 r3,int i64 r4,int i64 r5,int i64 r6,int i64 r7]:=by
  rw [← hv,show suitKv.take 9=suitKv from rfl,L6];unfold Dw;cases suitTab.find? λp=>decide (p.1=k)<;>rfl
 have hJ:(Au (suitKv.take 9) k).isSome=DY k:=by
  rw [show suitKv.take 9=suitKv from rfl,L6];unfold DY;simp
 have HG:=qh (And.intro hI hJ);have hH:=qh (show (#[int i64 r0,int i64 r1,int i64 r2,int i64 r3,int i64 r4,int i64 r5,int i64 r6,int i64 r7]:Array Value).all (·.oneCell')=true by simp [Value.oneCell']);have HM:Hid (MapAt kI W2 W1.heap.size (suitKv.take 0)):=qh mW2;have HN:Hid (w.heap.size<W1.heap.size):=qh (by omega);have HC:=qh (kW2.trans gW1);have HB:=qh (Ag bW1 bW2);rw [hv];clear mW2 bW2 kW2 gW1 bW1 sW1 hr hv hI hJ;generalize DY k=ok at *;have hR:=@run_makeMap Tryz.prog;go_enter Tryz.func132,Tryz.ntmps132
 go_wp2_with (first|(refine AP Bz _ rfl _ _ _ 220 (Or.inl rfl) Tryz.underlying220 Tryz.underlying3 _ (suitKv.take 0) (suitKv.take 1) rfl HM.out (BL 0) 1 rfl (by rfl) ?_;intro W2 hA hB hG hC;have hD:=qh hA;have hE:=qh ((hB w.heap.size (by have:=HN.out;omega)).trans HC.out);have hF:=qh (HB.out.trans (hC w.heap.size (by have:=HN.out;omega)));clear hA hB hG hC HM HC HB;have HM:=hD;have HC:=hE;have HB:=hF;clear hD hE hF)|(refine AP Bz _ rfl _ _ _ 220 (Or.inl rfl) Tryz.underlying220 Tryz.underlying3 _ (suitKv.take 1) (suitKv.take 2) rfl HM.out (BL 1) 2 rfl (by rfl) ?_;intro W2 hA hB hG hC;have hD:=qh hA;have hE:=qh ((hB w.heap.size (by have:=HN.out;omega)).trans HC.out);have hF:=qh (HB.out.trans (hC w.heap.size (by have:=HN.out;omega)));clear hA hB hG hC HM HC HB;have HM:=hD;have HC:=hE;have HB:=hF;clear hD hE hF)|(refine AP Bz _ rfl _ _ _ 220 (Or.inl rfl) Tryz.underlying220 Tryz.underlying3 _ (suitKv.take 2) (suitKv.take 3) rfl HM.out (BL 2) 3 rfl (by rfl) ?_;intro W2 hA hB hG hC;have hD:=qh hA;have hE:=qh ((hB w.heap.size (by have:=HN.out;omega)).trans HC.out);have hF:=qh (HB.out.trans (hC w.heap.size (by have:=HN.out;omega)));clear hA hB hG hC HM HC HB;have HM:=hD;have HC:=hE;have HB:=hF;clear hD hE hF)|(refine AP Bz _ rfl _ _ _ 220 (Or.inl rfl) Tryz.underlying220 Tryz.underlying3 _ (suitKv.take 3) (suitKv.take 4) rfl HM.out (BL 3) 4 rfl (by rfl) ?_;intro W2 hA hB hG hC;have hD:=qh hA;have hE:=qh ((hB w.heap.size (by have:=HN.out;omega)).trans HC.out);have hF:=qh (HB.out.trans (hC w.heap.size (by have:=HN.out;omega)));clear hA hB hG hC HM HC HB;have HM:=hD;have HC:=hE;have HB:=hF;clear hD hE hF)|(refine AP Bz _ rfl _ _ _ 220 (Or.inl rfl) Tryz.underlying220 Tryz.underlying3 _ (suitKv.take 4) (suitKv.take 5) rfl HM.out (BL 4) 5 rfl (by rfl) ?_;intro W2 hA hB hG hC;have hD:=qh hA;have hE:=qh ((hB w.heap.size (by have:=HN.out;omega)).trans HC.out);have hF:=qh (HB.out.trans (hC w.heap.size (by have:=HN.out;omega)));clear hA hB hG hC HM HC HB;have HM:=hD;have HC:=hE;have HB:=hF;clear hD hE hF)|(refine AP Bz _ rfl _ _ _ 220 (Or.inl rfl) Tryz.underlying220 Tryz.underlying3 _ (suitKv.take 5) (suitKv.take 6) rfl HM.out (BL 5) 6 rfl (by rfl) ?_;intro W2 hA hB hG hC;have hD:=qh hA;have hE:=qh ((hB w.heap.size (by have:=HN.out;omega)).trans HC.out);have hF:=qh (HB.out.trans (hC w.heap.size (by have:=HN.out;omega)));clear hA hB hG hC HM HC HB;have HM:=hD;have HC:=hE;have HB:=hF;clear hD hE hF)|(refine AP Bz _ rfl _ _ _ 220 (Or.inl rfl) Tryz.underlying220 Tryz.underlying3 _ (suitKv.take 6) (suitKv.take 7) rfl HM.out (BL 6) 7 rfl (by rfl) ?_;intro W2 hA hB hG hC;have hD:=qh hA;have hE:=qh ((hB w.heap.size (by have:=HN.out;omega)).trans HC.out);have hF:=qh (HB.out.trans (hC w.heap.size (by have:=HN.out;omega)));clear hA hB hG hC HM HC HB;have HM:=hD;have HC:=hE;have HB:=hF;clear hD hE hF)|(refine AP Bz _ rfl _ _ _ 220 (Or.inl rfl) Tryz.underlying220 Tryz.underlying3 _ (suitKv.take 7) (suitKv.take 8) rfl HM.out (BL 7) 8 rfl (by rfl) ?_;intro W2 hA hB hG hC;have hD:=qh hA;have hE:=qh ((hB w.heap.size (by have:=HN.out;omega)).trans HC.out);have hF:=qh (HB.out.trans (hC w.heap.size (by have:=HN.out;omega)));clear hA hB hG hC HM HC HB;have HM:=hD;have HC:=hE;have HB:=hF;clear hD hE hF)|(refine AP Bz _ rfl _ _ _ 220 (Or.inl rfl) Tryz.underlying220 Tryz.underlying3 _ (suitKv.take 8) (suitKv.take 9) rfl HM.out (BL 8) 9 rfl (by rfl) ?_;intro W2 hA hB hG hC;have hD:=qh hA;have hE:=qh ((hB w.heap.size (by have:=HN.out;omega)).trans HC.out);have hF:=qh (HB.out.trans (hC w.heap.size (by have:=HN.out;omega)));clear hA hB hG hC HM HC HB;have HM:=hD;have HC:=hE;have HB:=hF;clear hD hE hF)|(refine FW Bz _ rfl _ _ 220 true rfl Tryz.underlying220 Tryz.underlying3 (z:=.agg #[int i64 0,int i64 0,int i64 0,int i64 0,int i64 0,int i64 0,int i64 0,int i64 0]) (by kernel_rfl) _ _ rfl HM.out k rfl ?_;rw [HG.out.1,HG.out.2])|(refine wpList_store_row rfl 197 _ _ rfl w.heap.size #[int i64 r0,int i64 r1,int i64 r2,int i64 r3,int i64 r4,int i64 r5,int i64 r6,int i64 r7] rfl rfl 197 _ HC.out (by kernel_rfl) rfl hH.out ?_;obtain ⟨W9,hK,hL,hM⟩:=AO (cs:=#[int i64 r0,int i64 r1,int i64 r2,int i64 r3,int i64 r4,int i64 r5,int i64 r6,int i64 r7]) HC.out HB.out (qn _);rw [hK];have hN:=qh hL;have hO:=qh hM;clear hK hL hM HC HB;have HC:=hN;have HB:=hO;clear hN hO)|(refine wpList_load_row rfl 197 _ rfl w.heap.size rfl 197 #[int i64 r0,int i64 r1,int i64 r2,int i64 r3,int i64 r4,int i64 r5,int i64 r6,int i64 r7] (0,0) _ HC.out Tryz.underlying197 rfl (by kernel_rfl) ?_;simp only [Act.put,qD,qE,qF]))
 have hX:=HC.out;refine bodyPost_ret (v:=.tuple #[.agg #[int i64 r0,int i64 r1,int i64 r2,int i64 r3,int i64 r4,int i64 r5,int i64 r6,int i64 r7],.bool ok]) ?_ rfl ⟨rfl,HB.out⟩;have y0:=Aa hX 0 rfl;have y1:=Aa hX 1 rfl;have y2:=Aa hX 2 rfl;have y3:=Aa hX 3 rfl;have y4:=Aa hX 4 rfl;have y5:=Aa hX 5 rfl;have y6:=Aa hX 6 rfl;have y7:=Aa hX 7 rfl;clear hX;simp [results,Tryz.results132,go_sem,y0,y1,y2,y3,y4,y5,y6,y7]
end
section
open Go Go.RowKit
def E1(fa fb ta tb:Int):Bool:=Bh fa fb&&Bh ta tb&&decide (fa*tb<ta*fb)&&decide (0≤fa)&&decide (ta≤tb)
def ExP(b:Bool)(w:World)(e:Ending)(w':World):Prop:=((b=true∧e=.returned (.tuple #[]))∨(b=false∧e=Ai))∧Below w.heap.size w w'
theorem QP(a b:Int):decide (CQ a b<0)=decide (a<b):=by
 unfold CQ;by_cases h:a<b
 ·rw [if_pos h,decide_eq_true h];rfl
 ·rw [if_neg h,decide_eq_false h]
  split<;>rfl
noncomputable def Cj:Code:=(Tryz.f91.body).getD .skip
noncomputable def P2:Code:=qe 0 Cj
noncomputable def P3:Code:=qe 1 Cj
noncomputable def P4:Code:=qe 2 Cj
noncomputable def P5:Code:=qe 3 Cj
theorem Rj:Ab 1 Cj=.seq P3 (Ab 2 Cj):=rfl
theorem Rk:Ab 2 Cj=.seq P4 (Ab 3 Cj):=rfl
theorem Rl:Ab 3 Cj=.seq P5 (Ab 4 Cj):=rfl
theorem UK(mark kind side dir lev size n fa fb ta tb:Int)(wn:Nm)(A:Nat)(w W:World)(hb:Below w.heap.size w W)(hA:W.heap[A]?=some (.cells #[int i64 mark,int i64 kind,int i64 side,int i64 dir,int i64 lev,int i64 size,sv wn,int i64 n,int i64 fa,int i64 fb,int i64 ta,int i64 tb] 92 (0,0)))(e0 e2 e3 e4 e5 e6 e7 e8 e9 ea eb ec ed ee ef eg eh ei ej ek el em en eo ep eq er es et eu ev ew ex ey ez eA eB eC eD eE eF eG eH eI eJ eK eL eM eN eO eP eQ eR eS eT eU eV eW eX eY eZ aa ab ac ae af ag ah ai aj ak al am an ao:Value) :
  (Ab 4 Cj).wp Tryz.prog (bodyPost Tryz.prog Tryz.f91 (ExP (E1 fa fb ta tb) w)) { tmps:=#[e0,.pointer (some ⟨A,0,none⟩),e2,e3,e4,e5,e6,e7,e8,e9,ea,eb,ec,ed,ee,ef,eg,eh,ei,ej,ek,el,em,en,eo,ep,eq,er,es,et,eu,ev,ew,ex,ey,ez,eA,eB,eC,eD,eE,eF,eG,eH,eI,eJ,eK,eL,eM,eN,eO,eP,eQ,eR,eS,eT,eU,eV,eW,eX,eY,eZ,aa,ab,ac,ae,af,ag,ah,ai,aj,ak,al,am,an,ao],defers:=[] } W:=by
 have C:=Ef fa fb ta tb W;have y8:=Aa hA 8 rfl;have y9:=Aa hA 9 rfl;have y10:=Aa hA 10 rfl;have y11:=Aa hA 11 rfl;have HC:=qh C;have HA:=qh hA;have HB:=qh hb;clear C hA hb
 conv=>arg 2;whnf
 go_wp2_with fail;refine HC.out.mono ?_;rintro e V ⟨rfl,hv⟩;have hC:=qh (Ag HB.out hv);have hB:=Ah hv HA.out;clear y8 y9 y10 y11 HC hv;have y8:=Aa hB 8 rfl;have y9:=Aa hB 9 rfl;have y10:=Aa hB 10 rfl;have y11:=Aa hB 11 rfl;clear hB HA;unfold EJ
 cases hr:Bh fa fb&&Bh ta tb with
 | false =>
  have hz:E1 fa fb ta tb=false:=by unfold E1;rw [hr];rfl
  have HZ:=qh hz;clear hr hz
  go_wp2_with (go_at_call 56;first|(refine (An _).mono ?_;rintro e w2 ⟨rfl,rfl⟩)|(refine (Al _).mono ?_;unfold Ai;rintro e w2 ⟨rfl,rfl⟩));exact ⟨rfl,Or.inr ⟨HZ.out,rfl⟩,hC.out⟩
 | true =>
  obtain ⟨x,hx⟩:∃x,decide (fa*tb<ta*fb)=x:=⟨_,rfl⟩;obtain ⟨y,hy⟩:∃y,decide (0≤fa)=y:=⟨_,rfl⟩;obtain ⟨z,hz⟩:∃z,decide (ta≤tb)=z:=⟨_,rfl⟩;have hD:E1 fa fb ta tb=(x&&y&&z):=by unfold E1;rw [hr,hx,hy,hz];rfl
  have hc:=QP (fa*tb) (ta*fb);rw [hx] at hc;have HZ:=qh hD;generalize CQ (fa*tb) (ta*fb)=c at *;clear hr hD hx;cases x<;>cases y<;>cases z
  all_goals
   go_wp2_with (go_at_call 56;first|(refine (An _).mono ?_;rintro e w2 ⟨rfl,rfl⟩)|(refine (Al _).mono ?_;unfold Ai;rintro e w2 ⟨rfl,rfl⟩))
   first
    | (go_end0;exact ⟨Or.inl ⟨HZ.out,rfl⟩,hC.out⟩)
    | exact ⟨rfl,Or.inr ⟨HZ.out,rfl⟩,hC.out⟩
    | trace_state
def GV(side dir lev size r0 r1 r2 r3 r4 r5 r6 r7:Int):List Bool:=[inB side r0 r1,inB dir r2 r3,inB lev r4 r5,inB size r6 r7]
def OA(l:List Bool)(i:Nat):Prop:=∀j b,j<i→l[j]?=some b→b=true
theorem GA{l:List Bool}{i:Nat}{b:Bool}(h:OA l i)(hb:l[i]?=some b)(ht:b=true):OA l (i+1):=λj c hj hc=>by
 by_cases e:j=i
 ·subst e
  rw [hb] at hc;injection hc with hc;rw [← hc];exact ht
 ·exact h j c (by omega) hc
theorem Tu{l:List Bool}(h:OA l l.length):l.all id=true:=List.all_eq_true.2 λb hb=>by
 obtain ⟨j,hj⟩:=List.getElem?_of_mem hb;exact h j b (ql.1 hj).1 hj
theorem QJ{l:List Bool}{j:Nat}{b:Bool}(h:l[j]?=some b)(hb:b=false):l.all id=false:=by
 rw [← Bool.not_eq_true,List.all_eq_true];intro h2;have:=h2 b (List.mem_of_getElem? h);rw [hb] at this;cases this
theorem UJ(mark kind side dir lev size n fa fb ta tb r0 r1 r2 r3 r4 r5 r6 r7:Int)(wn:Nm)(A R:Nat)(w W:World)(hb:Below w.heap.size w W)(hA:W.heap[A]?=some (.cells #[int i64 mark,int i64 kind,int i64 side,int i64 dir,int i64 lev,int i64 size,sv wn,int i64 n,int i64 fa,int i64 fb,int i64 ta,int i64 tb] 92 (0,0)))(hR:W.heap[R]?=some (.cells #[int i64 r0,int i64 r1,int i64 r2,int i64 r3,int i64 r4,int i64 r5,int i64 r6,int i64 r7] 197 (0,0)))(e0 e3 e4 e5 e6 e7 e8 e9 ea eb ec ed ee ef eg eh ei ej ek el em en eo ep eq er es et eu ev ew ex ey ez eA eB eC eD eE eF eG eH eI eJ eK eL eM eN eO eP eQ eR eS eT eU eV eW eX eY eZ aa ab ac ae af ag ah ai aj ak al am an ao:Value) :
  (Ab 3 Cj).wp Tryz.prog (bodyPost Tryz.prog Tryz.f91 (ExP ((GV side dir lev size r0 r1 r2 r3 r4 r5 r6 r7).all id&&E1 fa fb ta tb) w)) { tmps:=#[e0,.pointer (some ⟨A,0,none⟩),.pointer (some ⟨R,0,none⟩),e3,e4,e5,e6,e7,e8,e9,ea,eb,ec,ed,ee,ef,eg,eh,ei,ej,ek,el,em,en,eo,ep,eq,er,es,et,eu,ev,ew,ex,ey,ez,eA,eB,eC,eD,eE,eF,eG,eH,eI,eJ,eK,eL,eM,eN,eO,eP,eQ,eR,eS,eT,eU,eV,eW,eX,eY,eZ,aa,ab,ac,ae,af,ag,ah,ai,aj,ak,al,am,an,ao],defers:=[] } W:=by
 have y2:=Aa hA 2 rfl;have y3:=Aa hA 3 rfl;have y4:=Aa hA 4 rfl;have y5:=Aa hA 5 rfl;have z0:=Aa hR 0 rfl;have z1:=Aa hR 1 rfl;have z2:=Aa hR 2 rfl;have z3:=Aa hR 3 rfl;have z4:=Aa hR 4 rfl;have z5:=Aa hR 5 rfl;have z6:=Aa hR 6 rfl;have z7:=Aa hR 7 rfl
 have HE:Hid (∀V,Below W.heap.size W V→OA (GV side dir lev size r0 r1 r2 r3 r4 r5 r6 r7) 4→∀(e0 e2 e3 e4 e5 e6 e7 e8 e9 ea eb ec ed ee ef eg eh ei ej ek el em en eo ep eq er es et eu ev ew ex ey ez eA eB eC eD eE eF eG eH eI eJ eK eL eM eN eO eP eQ eR eS eT eU eV eW eX eY eZ aa ab ac ae af ag ah ai aj ak al am an ao:Value),(Ab 4 Cj).wp Tryz.prog (bodyPost Tryz.prog Tryz.f91 (ExP ((GV side dir lev size r0 r1 r2 r3 r4 r5 r6 r7).all id&&E1 fa fb ta tb) w)) { tmps:=#[e0,.pointer (some ⟨A,0,none⟩),e2,e3,e4,e5,e6,e7,e8,e9,ea,eb,ec,ed,ee,ef,eg,eh,ei,ej,ek,el,em,en,eo,ep,eq,er,es,et,eu,ev,ew,ex,ey,ez,eA,eB,eC,eD,eE,eF,eG,eH,eI,eJ,eK,eL,eM,eN,eO,eP,eQ,eR,eS,eT,eU,eV,eW,eX,eY,eZ,aa,ab,ac,ae,af,ag,ah,ai,aj,ak,al,am,an,ao],defers:=[] } V):=qh λV hv ho=>by
  rw [Tu ho,Bool.true_and];exact UK mark kind side dir lev size n fa fb ta tb wn A w V (Ag hb hv) (Ah hv hA)
 have HF:Hid (∀j b,(GV side dir lev size r0 r1 r2 r3 r4 r5 r6 r7)[j]?=some b→b=false→((GV side dir lev size r0 r1 r2 r3 r4 r5 r6 r7).all id&&E1 fa fb ta tb)=false):=qh λj b h1 h2=>by rw [QJ h1 h2];rfl
 have HB:=qh hb;clear hA hR hb;generalize E1 fa fb ta tb=rest at *;rw [Rl];refine Ae (λK hK=>?_);have HK:=qh hK;clear hK
 conv=>arg 2;whnf
 go_wp2_with fail;go_loopw [30] (λiv wr=>∃i:Nat,iv=int i64 i∧i≤4∧Hid (OA (GV side dir lev size r0 r1 r2 r3 r4 r5 r6 r7) i)∧Hid (∃q,wr=W.drewN q)) (λiv _=>5-(intOf iv).toNat)
 case atStart=>exact ⟨0,rfl,Nat.zero_le _,qh (λj b h=>by omega),qh ⟨0,rfl⟩⟩
 case round =>
  obtain ⟨i,rfl,hE,hf,hq⟩:=hrel;obtain ⟨q,rfl⟩:=hq.out;have HW:Hid (Below w.heap.size w (W.drewN q).drew):=qh (Aj (Aj HB.out q) 1);have hD:Hid (∃q',(W.drewN q).drew=W.drewN q'):=qh ⟨q+1,rfl⟩;rcases (by omega:i=0∨i=1∨i=2∨i=3∨i=4) with rfl|rfl|rfl|rfl|rfl
  ·obtain ⟨b,hb⟩:∃b,inB side r0 r1=b:=⟨_,rfl⟩
   have hB:=qh hb;clear hb;have hC:∀V:World,(Instr.index 200 (.agg #[int i64 side,int i64 dir,int i64 lev,int i64 size]) (int i64 0)).run Tryz.prog V=.ok (int i64 side) V:=λV=>by kernel_rfl
   go_wp2_with fail;refine AM (λw2=>w2=(W.drewN q).drew) 10 (by kernel_rfl) (by kernel_rfl) rfl ?_;intro w2 hS;subst hS;simp only [List.take_succ_cons,List.take_zero,List.drop_succ_cons,List.drop_zero]
   repeat still_step
   still_call ((Bs _ _ _ _).mono λ_ _ ⟨e1,e2⟩=>⟨e1,e2.symm⟩)
   repeat still_step
   refine wpStill_nil ?_;rw [hB.out]
   cases b with
   | false =>
    have HZ:=qh (HF.out 0 _ rfl hB.out)
    go_wp2_with (go_at_call 56;first|(refine (An _).mono ?_;rintro e w2 ⟨rfl,rfl⟩)|(refine (Al _).mono ?_;unfold Ai;rintro e w2 ⟨rfl,rfl⟩));exact ⟨rfl,Or.inr ⟨HZ.out,rfl⟩,HW.out⟩
   | true =>
    go_wp2_with (go_at_call 56;first|(refine (An _).mono ?_;rintro e w2 ⟨rfl,rfl⟩)|(refine (Al _).mono ?_;unfold Ai;rintro e w2 ⟨rfl,rfl⟩));go_roundw
    case rel=>exact ⟨0+1,by go_num,by omega,qh (GA hf.out rfl hB.out),hD⟩
    case measure=>simp [intOf]
  ·obtain ⟨b,hb⟩:∃b,inB dir r2 r3=b:=⟨_,rfl⟩
   have hB:=qh hb;clear hb;have hC:∀V:World,(Instr.index 200 (.agg #[int i64 side,int i64 dir,int i64 lev,int i64 size]) (int i64 1)).run Tryz.prog V=.ok (int i64 dir) V:=λV=>by kernel_rfl
   go_wp2_with fail;refine AM (λw2=>w2=(W.drewN q).drew) 10 (by kernel_rfl) (by kernel_rfl) rfl ?_;intro w2 hS;subst hS;simp only [List.take_succ_cons,List.take_zero,List.drop_succ_cons,List.drop_zero]
   repeat still_step
   still_call ((Bs _ _ _ _).mono λ_ _ ⟨e1,e2⟩=>⟨e1,e2.symm⟩)
   repeat still_step
   refine wpStill_nil ?_;rw [hB.out]
   cases b with
   | false =>
    have HZ:=qh (HF.out 1 _ rfl hB.out)
    go_wp2_with (go_at_call 56;first|(refine (An _).mono ?_;rintro e w2 ⟨rfl,rfl⟩)|(refine (Al _).mono ?_;unfold Ai;rintro e w2 ⟨rfl,rfl⟩));exact ⟨rfl,Or.inr ⟨HZ.out,rfl⟩,HW.out⟩
   | true =>
    go_wp2_with (go_at_call 56;first|(refine (An _).mono ?_;rintro e w2 ⟨rfl,rfl⟩)|(refine (Al _).mono ?_;unfold Ai;rintro e w2 ⟨rfl,rfl⟩));go_roundw
    case rel=>exact ⟨1+1,by go_num,by omega,qh (GA hf.out rfl hB.out),hD⟩
    case measure=>simp [intOf]
  ·obtain ⟨b,hb⟩:∃b,inB lev r4 r5=b:=⟨_,rfl⟩
   have hB:=qh hb;clear hb;have hC:∀V:World,(Instr.index 200 (.agg #[int i64 side,int i64 dir,int i64 lev,int i64 size]) (int i64 2)).run Tryz.prog V=.ok (int i64 lev) V:=λV=>by kernel_rfl
   go_wp2_with fail;refine AM (λw2=>w2=(W.drewN q).drew) 10 (by kernel_rfl) (by kernel_rfl) rfl ?_;intro w2 hS;subst hS;simp only [List.take_succ_cons,List.take_zero,List.drop_succ_cons,List.drop_zero]
   repeat still_step
   still_call ((Bs _ _ _ _).mono λ_ _ ⟨e1,e2⟩=>⟨e1,e2.symm⟩)
   repeat still_step
   refine wpStill_nil ?_;rw [hB.out]
   cases b with
   | false =>
    have HZ:=qh (HF.out 2 _ rfl hB.out)
    go_wp2_with (go_at_call 56;first|(refine (An _).mono ?_;rintro e w2 ⟨rfl,rfl⟩)|(refine (Al _).mono ?_;unfold Ai;rintro e w2 ⟨rfl,rfl⟩));exact ⟨rfl,Or.inr ⟨HZ.out,rfl⟩,HW.out⟩
   | true =>
    go_wp2_with (go_at_call 56;first|(refine (An _).mono ?_;rintro e w2 ⟨rfl,rfl⟩)|(refine (Al _).mono ?_;unfold Ai;rintro e w2 ⟨rfl,rfl⟩));go_roundw
    case rel=>exact ⟨2+1,by go_num,by omega,qh (GA hf.out rfl hB.out),hD⟩
    case measure=>simp [intOf]
  ·obtain ⟨b,hb⟩:∃b,inB size r6 r7=b:=⟨_,rfl⟩
   have hB:=qh hb;clear hb;have hC:∀V:World,(Instr.index 200 (.agg #[int i64 side,int i64 dir,int i64 lev,int i64 size]) (int i64 3)).run Tryz.prog V=.ok (int i64 size) V:=λV=>by kernel_rfl
   go_wp2_with fail;refine AM (λw2=>w2=(W.drewN q).drew) 10 (by kernel_rfl) (by kernel_rfl) rfl ?_;intro w2 hS;subst hS;simp only [List.take_succ_cons,List.take_zero,List.drop_succ_cons,List.drop_zero]
   repeat still_step
   still_call ((Bs _ _ _ _).mono λ_ _ ⟨e1,e2⟩=>⟨e1,e2.symm⟩)
   repeat still_step
   refine wpStill_nil ?_;rw [hB.out]
   cases b with
   | false =>
    have HZ:=qh (HF.out 3 _ rfl hB.out)
    go_wp2_with (go_at_call 56;first|(refine (An _).mono ?_;rintro e w2 ⟨rfl,rfl⟩)|(refine (Al _).mono ?_;unfold Ai;rintro e w2 ⟨rfl,rfl⟩));exact ⟨rfl,Or.inr ⟨HZ.out,rfl⟩,HW.out⟩
   | true =>
    go_wp2_with (go_at_call 56;first|(refine (An _).mono ?_;rintro e w2 ⟨rfl,rfl⟩)|(refine (Al _).mono ?_;unfold Ai;rintro e w2 ⟨rfl,rfl⟩));go_roundw
    case rel=>exact ⟨3+1,by go_num,by omega,qh (GA hf.out rfl hB.out),hD⟩
    case measure=>simp [intOf]
  ·go_wp2_with fail
   refine HK.out _ _ ?_;exact HE.out _ (Aj (Below.refl _ _) q) hf.out _ _ _ _ _ _ _ _ _ _ _ _ _ _ _ _ _ _ _ _ _ _ _ _ _ _ _ _ _ _ _ _ _ _ _ _ _ _ _ _ _ _ _ _ _ _ _ _ _ _ _ _ _ _ _ _ _ _ _ _ _ _ _ _ _ _ _ _ _ _ _ _ _ _ _
def QX(kind side dir lev size:Int):Bool:=match Dw kind with
 | [r0,r1,r2,r3,r4,r5,r6,r7]=>(GV side dir lev size r0 r1 r2 r3 r4 r5 r6 r7).all id
 | _=>false
def LY(mark kind side dir lev size fa fb ta tb:Int):Bool:=(DY kind&&inB mark 1 3)&&(QX kind side dir lev size&&E1 fa fb ta tb)
theorem LK(mark kind side dir lev size n fa fb ta tb:Int)(wn:Nm)(w:World):Calls Tryz.prog 91 #[.agg #[int i64 mark,int i64 kind,int i64 side,int i64 dir,int i64 lev,int i64 size,sv wn,int i64 n,int i64 fa,int i64 fb,int i64 ta,int i64 tb]] w (ExP (LY mark kind side dir lev size fa fb ta tb) w):=by
 obtain ⟨W1,hI,gW1,bW1,sW1⟩:=Af w #[int i64 mark,int i64 kind,int i64 side,int i64 dir,int i64 lev,int i64 size,sv wn,int i64 n,int i64 fa,int i64 fb,int i64 ta,int i64 tb] 92;obtain ⟨r0,r1,r2,r3,r4,r5,r6,r7,hr⟩:=FA kind;have hv:L5 (Dw kind)=.agg #[int i64 r0,int i64 r1,int i64 r2,int i64 r3,int i64 r4,int i64 r5,int i64 r6,int i64 r7]:=by rw [hr];rfl
 have hC:(#[int i64 r0,int i64 r1,int i64 r2,int i64 r3,int i64 r4,int i64 r5,int i64 r6,int i64 r7]:Array Value).all (·.oneCell')=true:=by simp [Value.oneCell']
 have hD:QX kind side dir lev size=(GV side dir lev size r0 r1 r2 r3 r4 r5 r6 r7).all id:=by unfold QX;rw [hr]
 have C:=Om kind W1;rw [hv] at C;have HM:Hid (LY mark kind side dir lev size fa fb ta tb=((DY kind&&inB mark 1 3)&&((GV side dir lev size r0 r1 r2 r3 r4 r5 r6 r7).all id&&E1 fa fb ta tb))):=qh (by unfold LY;rw [hD]);generalize LY mark kind side dir lev size fa fb ta tb=mb at *;obtain ⟨ok,hJ⟩:∃ok,DY kind=ok:=⟨_,rfl⟩;rw [hJ] at C HM;have HC:=qh C;have HO:=qh hC;have hL:=qh hI;have HG:=qh gW1;have HB:=qh bW1;clear C hC hv hr hD hJ hI gW1 bW1;obtain ⟨cs,hF⟩:∃cs:Array Value,#[int i64 mark,int i64 kind,int i64 side,int i64 dir,int i64 lev,int i64 size,sv wn,int i64 n,int i64 fa,int i64 fb,int i64 ta,int i64 tb]=cs:=⟨_,rfl⟩;have hQ:=qh hF;have hA:=hL.out;rw [hF] at hA ⊢;have hE:=qh hA;clear hF hA hL;go_enter Tryz.func91,Tryz.ntmps91;change Code.wp Tryz.prog (.seq P2 (Ab 1 Cj)) _ _ _;refine Ae (λK hK=>?_);have HK:=qh hK;clear hK
 conv=>arg 2;whnf
 go_wp2_with fail;refine HK.out _ _ ?_;rw [hE.out];clear HK K hE hQ;have y1:=Aa HG.out 1 rfl;rw [Rj];refine Ae (λK hK=>?_);have HK:=qh hK;clear hK
 conv=>arg 2;whnf
 go_wp2_with fail;refine HC.out.mono ?_;rintro e V ⟨rfl,hv⟩;have hG:=Ah hv HG.out;have hM:=Ag HB.out hv;obtain ⟨W3,hR,gW3,bW3,sW3⟩:=Af V #[int i64 0,int i64 0,int i64 0,int i64 0,int i64 0,int i64 0,int i64 0,int i64 0] 197;obtain ⟨W4,hN,gW4,bW4⟩:=AO (cs:=#[int i64 r0,int i64 r1,int i64 r2,int i64 r3,int i64 r4,int i64 r5,int i64 r6,int i64 r7]) gW3 bW3 (qn _);have hT:w.heap.size<V.heap.size:=(qs.1 hG).1;have hB:=Ah bW4 hG;have H3:=qh (And.intro gW3 hN);have HX:=qh (And.intro hB (And.intro gW4 (Ag hM bW4)));clear HC HG y1 hv hG hM gW3 bW3 sW3 hN gW4 bW4 hB HB;have y1':True:=trivial
 go_wp2_with (refine wpList_store_row rfl 197 _ _ rfl V.heap.size #[int i64 r0,int i64 r1,int i64 r2,int i64 r3,int i64 r4,int i64 r5,int i64 r6,int i64 r7] rfl rfl 197 _ H3.out.1 (by kernel_rfl) rfl HO.out ?_;rw [H3.out.2]);refine HK.out _ _ ?_;clear HK K H3 hR;obtain ⟨hB,gW4,hH⟩:=HX.out;have y0:=Aa hB 0 rfl
 have HE:=qh (λ(b:Bool) (hS:mb=((GV side dir lev size r0 r1 r2 r3 r4 r5 r6 r7).all id&&E1 fa fb ta tb))=>by
  have:=UJ mark kind side dir lev size n fa fb ta tb r0 r1 r2 r3 r4 r5 r6 r7 wn w.heap.size V.heap.size w W4 hH hB gW4;rw [← hS] at this
  exact this)
 have hO:=qh hH;clear hB gW4 hH HX;generalize V.heap.size=R at *;rw [Rk];refine Ae (λK hK=>?_);have HK:=qh hK;clear hK
 conv=>arg 2;whnf
 obtain ⟨b,hb⟩:∃b,inB mark 1 3=b:=⟨_,rfl⟩;have hP:=qh hb;rw [hb] at HM;clear hb
 cases ok with
 | false =>
  go_wp2_with (go_at_call 56;first|(refine (An _).mono ?_;rintro e w2 ⟨rfl,rfl⟩)|(refine (Al _).mono ?_;unfold Ai;rintro e w2 ⟨rfl,rfl⟩));exact ⟨rfl,Or.inr ⟨by rw [HM.out];rfl,rfl⟩,hO.out⟩
 | true =>
  cases b with
  | false =>
   go_wp2_with (first|(go_at_call 57;refine (Bs _ _ _ _).mono ?_;rw [hP.out];rintro e w2 ⟨rfl,rfl⟩)|(go_at_call 56;first|(refine (An _).mono ?_;rintro e w2 ⟨rfl,rfl⟩)|(refine (Al _).mono ?_;unfold Ai;rintro e w2 ⟨rfl,rfl⟩)));exact ⟨rfl,Or.inr ⟨by rw [HM.out];rfl,rfl⟩,hO.out⟩
  | true =>
   go_wp2_with (first|(go_at_call 57;refine (Bs _ _ _ _).mono ?_;rw [hP.out];rintro e w2 ⟨rfl,rfl⟩)|(go_at_call 56;first|(refine (An _).mono ?_;rintro e w2 ⟨rfl,rfl⟩)|(refine (Al _).mono ?_;unfold Ai;rintro e w2 ⟨rfl,rfl⟩)));refine HK.out _ _ ?_;exact HE.out true (by rw [HM.out];simp) _ _ _ _ _ _ _ _ _ _ _ _ _ _ _ _ _ _ _ _ _ _ _ _ _ _ _ _ _ _ _ _ _ _ _ _ _ _ _ _ _ _ _ _ _ _ _ _ _ _ _ _ _ _ _ _ _ _ _ _ _ _ _ _ _ _ _ _ _ _ _ _ _ _
def Cr(m:Mov):Bool:=LY m.mark m.kind m.side m.dir m.level m.size m.fa m.fb m.ta m.tb
def Ex(k n:Int):Bool:=if k=2 then inB n 1 64 else decide (n=0)
def Its.exB:Its→Bool
 | .nil=>true
 | .cons k n _ its ms r=>Ex k n&&((decide (its.len=0)||(decide (k=2)||decide (k=3)))&&((decide (ms.length=0)||decide (k=1))&&((ms.all Cr&&its.exB)&&r.exB)))
noncomputable def SZ:Code:=(Tryz.f58.body).getD .skip
noncomputable def Bq:Code:=match SZ with
 | .seq _ (.block _ (.loop (.seq _ (.seq _ (.seq (.block _ c) _)))))=>c
 | c=>c
noncomputable def P1:Code:=qe 4 Bq
noncomputable def OY:Code:=qe 1 Bq
noncomputable def OZ:Code:=qe 2 Bq
noncomputable def P0:Code:=qe 3 Bq
def BN:List PanicEntry:=[{ v:=.iface 113 (.agg #[]),recovered:=false }]
theorem BO{b:Bool}(h:b=false)(w:World):Calls Tryz.prog 56 #[.bool b] w λe w'=>e=Ai∧w=w':=by subst h;exact Al w
theorem LL{b:Bool}{w w':World}{e:Ending}(h:ExP b w e w'):(b=true∧e=.returned (.tuple #[])∧Below w.heap.size w w')∨(b=false∧e=.panicked BN∧Below w.heap.size w w'):=by
 rcases h with ⟨⟨h1,h2⟩|⟨h1,h2⟩,h3⟩
 ·exact Or.inl ⟨h1,h2,h3⟩
 ·exact Or.inr ⟨h1,h2,h3⟩
theorem UD(k n u:Int)(un:Nm)(ia:Option Addr)(ic l:Nat)(ma:Option Addr)(mc m:Nat)(X:Nat)(Q:Exit→Act→World→Prop)(W:World)(hX:W.heap[X]?=some (.cells #[int i64 k,int i64 n,sv un,int i64 u,.slice ia l ic,.slice ma m mc] 121 (0,0)))(b:Bool)(C:∀V,Below W.heap.size W V→Calls Tryz.prog 58 #[.slice ia l ic] V (ExP b V))
  (hN:b=true→∀(x5 x9 aa ab ac ae af ag ah ai aj ak al am an ao ap aq ar au av aw ax ay az aA aB aC aD aE aF aG aH aI aJ aK aL aM aN aO aP aQ aR aS aT aU aV aW aX aY aZ ba bb bc:Value) (V:World),Below W.heap.size W V→Q .normal { tmps:=#[e0,e1,e2,.pointer (some ⟨X,0,none⟩),e4,x5,e6,e7,e8,x9,aa,ab,ac,ae,af,ag,ah,ai,aj,ak,al,am,an,ao,ap,aq,ar,au,av,aw,ax,ay,az,aA,aB,aC,aD,aE,aF,aG,aH,aI,aJ,aK,aL,aM,aN,aO,aP,aQ,aR,aS,aT,aU,aV,aW,aX,aY,aZ,ba,bb,bc],defers:=[] } V)
  (hP:b=false→∀(a:Act) (V:World),a.defers=[]→Below W.heap.size W V→Q (.panic BN) a V) :
  (Ab 5 Bq).wp Tryz.prog Q { tmps:=#[e0,e1,e2,.pointer (some ⟨X,0,none⟩),e4,e5,e6,e7,e8,e9,ea,eb,ec,ed,ee,ef,eg,eh,ei,ej,ek,el,em,en,eo,ep,eq,er,es,et,eu,ev,ew,ex,ey,ez,eA,eB,eC,eD,eE,eF,eG,eH,eI,eJ,eK,eL,eM,eN,eO,eP,eQ,eR,eS,eT,eU,eV,eW,eX,eY,eZ],defers:=[] } W:=by
 have y4:=Aa hX 4 rfl;have C:=C W (Below.refl _ _);have HC:=qh C;have HN:=qh hN;have HP:=qh hP;clear C hX hN hP
 conv=>arg 2;whnf
 go_wp2_with (go_at_call 58;refine HC.out.mono ?_;intro e V he;rcases LL he with ⟨h1,rfl,hb⟩|⟨h1,rfl,hb⟩<;>clear he)
 ·exact HN.out h1 _ _ _ _ _ _ _ _ _ _ _ _ _ _ _ _ _ _ _ _ _ _ _ _ _ _ _ _ _ _ _ _ _ _ _ _ _ _ _ _ _ _ _ _ _ _ _ _ _ _ _ _ _ _ _ hb
 ·exact HP.out h1 _ _ rfl hb
theorem UC(k n u:Int)(un:Nm)(ia:Option Addr)(ic l:Nat)(ma:Option Addr)(mc m:Nat)(X:Nat)(Q:Exit→Act→World→Prop)(W:World)(hX:W.heap[X]?=some (.cells #[int i64 k,int i64 n,sv un,int i64 u,.slice ia l ic,.slice ma m mc] 121 (0,0)))(b:Bool)(C:∀V,Below W.heap.size W V→Calls Tryz.prog 58 #[.slice ia l ic] V (ExP b V))(ms:List Mov)(ks:List Int)(hH:ms.length=m)(hI:ms=[]∨ma=some ⟨blk ma,off ma,none⟩)(hU:m≤maxLen)(hJ:Be W (blk ma) (off ma) ms)(hO:NsAt W (As (blk ma) (off ma) ms) ks)(e0 e1 e2 e4 e5 e6 e7 e8 e9 ea eb ec ed ee ef eg eh ei ej ek el em en eo ep eq er es et eu ev ew ex ey ez eA eB eC eD eE eF eG eH eI eJ eK eL eM eN eO eP eQ eR eS eT eU eV eW eX eY eZ:Value)
  (hN:(ms.all Cr&&b)=true→∀(x5 x9 aa ab ac ae af ag ah ai aj ak al am an ao ap aq ar au av aw ax ay az aA aB aC aD aE aF aG aH aI aJ aK aL aM aN aO aP aQ aR aS aT aU aV aW aX aY aZ ba bb bc:Value) (V:World),Below W.heap.size W V→Q .normal { tmps:=#[e0,e1,e2,.pointer (some ⟨X,0,none⟩),e4,x5,e6,e7,e8,x9,aa,ab,ac,ae,af,ag,ah,ai,aj,ak,al,am,an,ao,ap,aq,ar,au,av,aw,ax,ay,az,aA,aB,aC,aD,aE,aF,aG,aH,aI,aJ,aK,aL,aM,aN,aO,aP,aQ,aR,aS,aT,aU,aV,aW,aX,aY,aZ,ba,bb,bc],defers:=[] } V)
  (hP:(ms.all Cr&&b)=false→∀(a:Act) (V:World),a.defers=[]→Below W.heap.size W V→Q (.panic BN) a V) :
  (Ab 4 Bq).wp Tryz.prog Q { tmps:=#[e0,e1,e2,.pointer (some ⟨X,0,none⟩),e4,e5,e6,e7,e8,e9,ea,eb,ec,ed,ee,ef,eg,eh,ei,ej,ek,el,em,en,eo,ep,eq,er,es,et,eu,ev,ew,ex,ey,ez,eA,eB,eC,eD,eE,eF,eG,eH,eI,eJ,eK,eL,eM,eN,eO,eP,eQ,eR,eS,eT,eU,eV,eW,eX,eY,eZ],defers:=[] } W:=by
 have y5:=Aa hX 5 rfl;have HC:=qh C;have HN:=qh hN;have HP:=qh hP;have hV:=qh hI;have hW:=qh hJ;have hY:=qh hO;have HX:=qh hX;have hE:=qh hH;clear C hX hN hP hI hJ hO hH;unfold maxLen at hU;change Code.wp Tryz.prog (.seq (P1) (Ab 5 Bq)) _ _ _;refine Ae (λK hK=>?_);have HK:=qh hK;clear hK
 conv=>arg 2;whnf
 go_wp2_with fail;go_loopw [51] (λjv wr=>∃(j:Nat) (s:List Mov) (ls:List Int),jv=int i64 j∧j+s.length=m∧Hid (ms.all Cr=s.all Cr)∧Hid (Be wr (blk ma) (off ma+j*12) s)∧Hid (NsAt wr (As (blk ma) (off ma+j*12) s) ls)∧Hid (Below W.heap.size W wr)) (λjv _=>m+1-(intOf jv).toNat)
 case atStart=>exact ⟨0,ms,ks,rfl,by rw [hE.out];omega,qh rfl,by simpa [Hid] using hW.out,by simpa [Hid] using hY.out,qh (Below.refl _ _)⟩
 case round =>
  obtain ⟨j,s,ls,rfl,hF,hA,hM,hL,hB⟩:=hrel
  cases s with
  | nil =>
   simp only [List.length_nil,Nat.add_zero] at hF;subst hF;go_wp2_with fail;refine HK.out _ _ ?_;have ha:=hA.out;have e:(ms.all Cr&&b)=b:=by rw [ha];rfl
   refine UD k n u un ia ic l ma mc j X Q wr (Ah hB.out HX.out) b (λV hv=>HC.out V (Ag hB.out hv)) (λh x5 x9 aa ab ac ae af ag ah ai aj ak al am an ao ap aq ar au av aw ax ay az aA aB aC aD aE aF aG aH aI aJ aK aL aM aN aO aP aQ aR aS aT aU aV aW aX aY aZ ba bb bc V hv=>HN.out (e.trans h) x5 x9 aa ab ac ae af ag ah ai aj ak al am an ao ap aq ar au av aw ax ay az aA aB aC aD aE aF aG aH aI aJ aK aL aM aN aO aP aQ aR aS aT aU aV aW aX aY aZ ba bb bc V (Ag hB.out hv)) (λh a V hd hv=>HP.out (e.trans h) a V hd (Ag hB.out hv))
  | cons x s =>
   simp only [List.length_cons] at hF;have hj:(j:Int)<(m:Int):=by omega
   have ema:=hV.out.resolve_left (λe=>by rw [e] at hE;have:=hE.out;simp at this;omega)
   cases ls with
   | nil=>exact absurd hL.out (by simp [As,NsAt])
   | cons n1 ls =>
   obtain ⟨⟨f0,f1,f2,f3,f4,f5,f6,f8,f9,f10,f11⟩,hQ⟩:=hM.out;obtain ⟨f7,hR⟩:=hL.out
   have hS:Hid (Be wr (blk ma) (off ma+(j+1)*12) s∧NsAt wr (As (blk ma) (off ma+(j+1)*12) s) ls):=qh (by
    rw [show off ma+(j+1)*12=off ma+j*12+12 by omega]
    exact ⟨hQ,hR⟩)
   obtain ⟨W2,hi,gW2,bW2,sW2⟩:=Af wr #[int i64 x.mark,int i64 x.kind,int i64 x.side,int i64 x.dir,int i64 x.level,int i64 x.size,sv x.wn,int i64 n1,int i64 x.fa,int i64 x.fb,int i64 x.ta,int i64 x.tb] 92;have CX:=LK x.mark x.kind x.side x.dir x.level x.size n1 x.fa x.fb x.ta x.tb x.wn W2;obtain ⟨bx,hG⟩:∃bx,LY x.mark x.kind x.side x.dir x.level x.size x.fa x.fb x.ta x.tb=bx:=⟨_,rfl⟩;rw [hG] at CX;have hT:Cr x=bx:=hG;have ha:=hA.out;rw [List.all_cons,hT] at ha;have HA:=qh ha;have hZ:=qh CX;have hD:=qh bW2;have hc:=qh gW2;clear hM hL hQ hR CX hG hT ha hA bW2 sW2;have hC:(#[int i64 x.mark,int i64 x.kind,int i64 x.side,int i64 x.dir,int i64 x.level,int i64 x.size,sv x.wn,int i64 n1,int i64 x.fa,int i64 x.fb,int i64 x.ta,int i64 x.tb]:Array Value).all (·.oneCell')=true:=by simp [Value.oneCell']
   generalize x.mark=x0 at *;generalize x.kind=x1 at *;generalize x.side=x2 at *;generalize x.dir=x3 at *;generalize x.level=x4 at *;generalize x.size=x5 at *;generalize x.wn=x6 at *;generalize x.fa=x8 at *;generalize x.fb=x9 at *;generalize x.ta=aa at *;generalize x.tb=ab at *;have hf:=qh hC;clear hC gW2;generalize hg:blk ma=b3 at *;generalize hh:off ma=o3 at *;subst ema;clear hg hh;have st0:True:=trivial
   go_wp2_with (first
    | (have q:=st0;clear q st0;refine wpList_load_row rfl 92 _ rfl wr.heap.size rfl 92 #[int i64 x0,int i64 x1,int i64 x2,int i64 x3,int i64 x4,int i64 x5,sv x6,int i64 n1,int i64 x8,int i64 x9,int i64 aa,int i64 ab] (0,0) _ hc.out Tryz.underlying92 rfl (by kernel_rfl) ?_;simp only [Act.put,qD,qE,qF])
    | (go_at_call 91;refine hZ.out.mono ?_;intro e V he;rcases LL he with ⟨h1,rfl,hb⟩|⟨h1,rfl,hb⟩<;>clear he))
   ·go_roundw
    case rel=>exact ⟨j+1,s,ls,by go_num,by omega,qh (by rw [HA.out,h1];rfl),qh (Cf hS.out.1 (Ag hD.out hb)),qh (hS.out.2.below (Ag hD.out hb)),qh (Ag hB.out (Ag hD.out hb))⟩
    case measure=>simp [intOf];omega
   ·exact HP.out (by rw [HA.out,h1];rfl) _ _ rfl (Ag hB.out (Ag hD.out hb))
theorem UB(k n u:Int)(un:Nm)(ia:Option Addr)(ic l:Nat)(ma:Option Addr)(mc m:Nat)(X:Nat)(Q:Exit→Act→World→Prop)(W:World)(hX:W.heap[X]?=some (.cells #[int i64 k,int i64 n,sv un,int i64 u,.slice ia l ic,.slice ma m mc] 121 (0,0)))(b:Bool)(C:∀V,Below W.heap.size W V→Calls Tryz.prog 58 #[.slice ia l ic] V (ExP b V))(ms:List Mov)(ks:List Int)(hA:ms.length=m)(hB:ms=[]∨ma=some ⟨blk ma,off ma,none⟩)(hC:m≤maxLen)(hD:Be W (blk ma) (off ma) ms)(hE:NsAt W (As (blk ma) (off ma) ms) ks)(e0 e1 e2 e4 e5 e6 e7 e8 e9 ea eb ec ed ee ef eg eh ei ej ek el em en eo ep eq er es et eu ev ew ex ey ez eA eB eC eD eE eF eG eH eI eJ eK eL eM eN eO eP eQ eR eS eT eU eV eW eX eY eZ:Value)
  (hN:((decide (m=0)||decide (k=1))&&(ms.all Cr&&b))=true→∀(x5 x9 aa ab ac ae af ag ah ai aj ak al am an ao ap aq ar au av aw ax ay az aA aB aC aD aE aF aG aH aI aJ aK aL aM aN aO aP aQ aR aS aT aU aV aW aX aY aZ ba bb bc:Value) (V:World),Below W.heap.size W V→Q .normal { tmps:=#[e0,e1,e2,.pointer (some ⟨X,0,none⟩),e4,x5,e6,e7,e8,x9,aa,ab,ac,ae,af,ag,ah,ai,aj,ak,al,am,an,ao,ap,aq,ar,au,av,aw,ax,ay,az,aA,aB,aC,aD,aE,aF,aG,aH,aI,aJ,aK,aL,aM,aN,aO,aP,aQ,aR,aS,aT,aU,aV,aW,aX,aY,aZ,ba,bb,bc],defers:=[] } V)
  (hP:((decide (m=0)||decide (k=1))&&(ms.all Cr&&b))=false→∀(a:Act) (V:World),a.defers=[]→Below W.heap.size W V→Q (.panic BN) a V) :
  (Ab 3 Bq).wp Tryz.prog Q { tmps:=#[e0,e1,e2,.pointer (some ⟨X,0,none⟩),e4,e5,e6,e7,e8,e9,ea,eb,ec,ed,ee,ef,eg,eh,ei,ej,ek,el,em,en,eo,ep,eq,er,es,et,eu,ev,ew,ex,ey,ez,eA,eB,eC,eD,eE,eF,eG,eH,eI,eJ,eK,eL,eM,eN,eO,eP,eQ,eR,eS,eT,eU,eV,eW,eX,eY,eZ],defers:=[] } W:=by
 have y0:=Aa hX 0 rfl;have y5:=Aa hX 5 rfl;have HE:Hid ((decide (m=0)||decide (k=1))=true→∀(y5 y9 y10 y11 y12 y13 y14 y15 y16 y17 y18 y19 y20 y21 y22 y23 y24 y25 y26 y27 y28 y29 y30 y31 y32 y33 y34 y35 y36 y37 y38 y39 y40 y41 y42 y43 y44 y45 y46 y47 y48 y49 y50 y51 y52 y53 y54 y55 y56 y57 y58 y59 y60 y61:Value),(Ab 4 Bq).wp Tryz.prog Q { tmps:=#[e0,e1,e2,.pointer (some ⟨X,0,none⟩),e4,y5,e6,e7,e8,y9,y10,y11,y12,y13,y14,y15,y16,y17,y18,y19,y20,y21,y22,y23,y24,y25,y26,y27,y28,y29,y30,y31,y32,y33,y34,y35,y36,y37,y38,y39,y40,y41,y42,y43,y44,y45,y46,y47,y48,y49,y50,y51,y52,y53,y54,y55,y56,y57,y58,y59,y60,y61],defers:=[] } W):=qh λh y5 y9 y10 y11 y12 y13 y14 y15 y16 y17 y18 y19 y20 y21 y22 y23 y24 y25 y26 y27 y28 y29 y30 y31 y32 y33 y34 y35 y36 y37 y38 y39 y40 y41 y42 y43 y44 y45 y46 y47 y48 y49 y50 y51 y52 y53 y54 y55 y56 y57 y58 y59 y60 y61=>UC k n u un ia ic l ma mc m X Q W hX b C ms ks hA hB hC hD hE e0 e1 e2 e4 y5 e6 e7 e8 y9 y10 y11 y12 y13 y14 y15 y16 y17 y18 y19 y20 y21 y22 y23 y24 y25 y26 y27 y28 y29 y30 y31 y32 y33 y34 y35 y36 y37 y38 y39 y40 y41 y42 y43 y44 y45 y46 y47 y48 y49 y50 y51 y52 y53 y54 y55 y56 y57 y58 y59 y60 y61 (λh2=>hN (by rw [h,h2];rfl)) (λh2=>hP (by rw [h,h2];rfl))
 have HP:Hid ((decide (m=0)||decide (k=1))=false→∀(a:Act),a.defers=[]→Q (.panic BN) a W):=qh λh a hd=>hP (by rw [h];rfl) a W hd (Below.refl _ _)
 clear hX hN hP C hA hB hC hD hE;change Code.wp Tryz.prog (.seq P0 (Ab 4 Bq)) _ _ _;refine Ae (λK hK=>?_);have HK:=qh hK;clear hK
 conv=>arg 2;whnf
 by_cases hG:(m:Int)=0
 ·have hg:(decide (m=0)||decide (k=1))=true:=by rw [decide_eq_true (by omega:m=0)];rfl
  have HG:=qh hg;clear hg
  go_wp2_with (go_at_call 56;first|(refine (An _).mono ?_;rintro e w2 ⟨rfl,rfl⟩)|(refine (Al _).mono ?_;unfold Ai;rintro e w2 ⟨rfl,rfl⟩)|(refine (BO (by simp only [Bool.or_eq_false_iff,beq_eq_false_iff_ne,ne_eq];omega) _).mono ?_;unfold Ai;rintro e w2 ⟨rfl,rfl⟩));refine HK.out _ _ ?_;exact HE.out HG.out _ _ _ _ _ _ _ _ _ _ _ _ _ _ _ _ _ _ _ _ _ _ _ _ _ _ _ _ _ _ _ _ _ _ _ _ _ _ _ _ _ _ _ _ _ _ _ _ _ _ _ _ _ _
 ·by_cases hF:k=1
  ·have hg:(decide (m=0)||decide (k=1))=true:=by rw [decide_eq_true hF,Bool.or_true]
   have HG:=qh hg;clear hg
   go_wp2_with (go_at_call 56;first|(refine (An _).mono ?_;rintro e w2 ⟨rfl,rfl⟩)|(refine (Al _).mono ?_;unfold Ai;rintro e w2 ⟨rfl,rfl⟩)|(refine (BO (by simp only [Bool.or_eq_false_iff,beq_eq_false_iff_ne,ne_eq];omega) _).mono ?_;unfold Ai;rintro e w2 ⟨rfl,rfl⟩));refine HK.out _ _ ?_;exact HE.out HG.out _ _ _ _ _ _ _ _ _ _ _ _ _ _ _ _ _ _ _ _ _ _ _ _ _ _ _ _ _ _ _ _ _ _ _ _ _ _ _ _ _ _ _ _ _ _ _ _ _ _ _ _ _ _
  ·have hg:(decide (m=0)||decide (k=1))=false:=by rw [decide_eq_false (by omega:¬m=0),decide_eq_false hF];rfl
   have HG:=qh hg;clear hg
   go_wp2_with (go_at_call 56;first|(refine (An _).mono ?_;rintro e w2 ⟨rfl,rfl⟩)|(refine (Al _).mono ?_;unfold Ai;rintro e w2 ⟨rfl,rfl⟩)|(refine (BO (by simp only [Bool.or_eq_false_iff,beq_eq_false_iff_ne,ne_eq];omega) _).mono ?_;unfold Ai;rintro e w2 ⟨rfl,rfl⟩));refine HP.out HG.out _ ?_
   rfl
theorem UA(k n u:Int)(un:Nm)(ia:Option Addr)(ic l:Nat)(ma:Option Addr)(mc m:Nat)(X:Nat)(Q:Exit→Act→World→Prop)(W:World)(hX:W.heap[X]?=some (.cells #[int i64 k,int i64 n,sv un,int i64 u,.slice ia l ic,.slice ma m mc] 121 (0,0)))(b:Bool)(C:∀V,Below W.heap.size W V→Calls Tryz.prog 58 #[.slice ia l ic] V (ExP b V))(ms:List Mov)(ks:List Int)(hA:ms.length=m)(hB:ms=[]∨ma=some ⟨blk ma,off ma,none⟩)(hC:m≤maxLen)(hD:Be W (blk ma) (off ma) ms)(hE:NsAt W (As (blk ma) (off ma) ms) ks)(e0 e1 e2 e4 e5 e6 e7 e8 e9 ea eb ec ed ee ef eg eh ei ej ek el em en eo ep eq er es et eu ev ew ex ey ez eA eB eC eD eE eF eG eH eI eJ eK eL eM eN eO eP eQ eR eS eT eU eV eW eX eY eZ:Value)
  (hN:((decide (l=0)||(decide (k=2)||decide (k=3)))&&((decide (m=0)||decide (k=1))&&(ms.all Cr&&b)))=true→∀(x5 x9 aa ab ac ae af ag ah ai aj ak al am an ao ap aq ar au av aw ax ay az aA aB aC aD aE aF aG aH aI aJ aK aL aM aN aO aP aQ aR aS aT aU aV aW aX aY aZ ba bb bc:Value) (V:World),Below W.heap.size W V→Q .normal { tmps:=#[e0,e1,e2,.pointer (some ⟨X,0,none⟩),e4,x5,e6,e7,e8,x9,aa,ab,ac,ae,af,ag,ah,ai,aj,ak,al,am,an,ao,ap,aq,ar,au,av,aw,ax,ay,az,aA,aB,aC,aD,aE,aF,aG,aH,aI,aJ,aK,aL,aM,aN,aO,aP,aQ,aR,aS,aT,aU,aV,aW,aX,aY,aZ,ba,bb,bc],defers:=[] } V)
  (hP:((decide (l=0)||(decide (k=2)||decide (k=3)))&&((decide (m=0)||decide (k=1))&&(ms.all Cr&&b)))=false→∀(a:Act) (V:World),a.defers=[]→Below W.heap.size W V→Q (.panic BN) a V) :
  (Ab 2 Bq).wp Tryz.prog Q { tmps:=#[e0,e1,e2,.pointer (some ⟨X,0,none⟩),e4,e5,e6,e7,e8,e9,ea,eb,ec,ed,ee,ef,eg,eh,ei,ej,ek,el,em,en,eo,ep,eq,er,es,et,eu,ev,ew,ex,ey,ez,eA,eB,eC,eD,eE,eF,eG,eH,eI,eJ,eK,eL,eM,eN,eO,eP,eQ,eR,eS,eT,eU,eV,eW,eX,eY,eZ],defers:=[] } W:=by
 have y0:=Aa hX 0 rfl;have y4:=Aa hX 4 rfl;have HE:Hid ((decide (l=0)||(decide (k=2)||decide (k=3)))=true→∀(y5 y9 y10 y11 y12 y13 y14 y15 y16 y17 y18 y19 y20 y21 y22 y23 y24 y25 y26 y27 y28 y29 y30 y31 y32 y33 y34 y35 y36 y37 y38 y39 y40 y41 y42 y43 y44 y45 y46 y47 y48 y49 y50 y51 y52 y53 y54 y55 y56 y57 y58 y59 y60 y61:Value),(Ab 3 Bq).wp Tryz.prog Q { tmps:=#[e0,e1,e2,.pointer (some ⟨X,0,none⟩),e4,y5,e6,e7,e8,y9,y10,y11,y12,y13,y14,y15,y16,y17,y18,y19,y20,y21,y22,y23,y24,y25,y26,y27,y28,y29,y30,y31,y32,y33,y34,y35,y36,y37,y38,y39,y40,y41,y42,y43,y44,y45,y46,y47,y48,y49,y50,y51,y52,y53,y54,y55,y56,y57,y58,y59,y60,y61],defers:=[] } W):=qh λh y5 y9 y10 y11 y12 y13 y14 y15 y16 y17 y18 y19 y20 y21 y22 y23 y24 y25 y26 y27 y28 y29 y30 y31 y32 y33 y34 y35 y36 y37 y38 y39 y40 y41 y42 y43 y44 y45 y46 y47 y48 y49 y50 y51 y52 y53 y54 y55 y56 y57 y58 y59 y60 y61=>UB k n u un ia ic l ma mc m X Q W hX b C ms ks hA hB hC hD hE e0 e1 e2 e4 y5 e6 e7 e8 y9 y10 y11 y12 y13 y14 y15 y16 y17 y18 y19 y20 y21 y22 y23 y24 y25 y26 y27 y28 y29 y30 y31 y32 y33 y34 y35 y36 y37 y38 y39 y40 y41 y42 y43 y44 y45 y46 y47 y48 y49 y50 y51 y52 y53 y54 y55 y56 y57 y58 y59 y60 y61 (λh2=>hN (by rw [h,h2];rfl)) (λh2=>hP (by rw [h,h2];rfl))
 have HP:Hid ((decide (l=0)||(decide (k=2)||decide (k=3)))=false→∀(a:Act),a.defers=[]→Q (.panic BN) a W):=qh λh a hd=>hP (by rw [h];rfl) a W hd (Below.refl _ _)
 clear hX hN hP C hA hB hC hD hE;change Code.wp Tryz.prog (.seq OZ (Ab 3 Bq)) _ _ _;refine Ae (λK hK=>?_);have HK:=qh hK;clear hK
 conv=>arg 2;whnf
 by_cases hH:(l:Int)=0
 ·have hg:(decide (l=0)||(decide (k=2)||decide (k=3)))=true:=by rw [decide_eq_true (by omega:l=0)];rfl
  have HG:=qh hg;clear hg
  go_wp2_with (go_at_call 56;first|(refine (An _).mono ?_;rintro e w2 ⟨rfl,rfl⟩)|(refine (Al _).mono ?_;unfold Ai;rintro e w2 ⟨rfl,rfl⟩)|(refine (BO (by simp only [Bool.or_eq_false_iff,beq_eq_false_iff_ne,ne_eq];omega) _).mono ?_;unfold Ai;rintro e w2 ⟨rfl,rfl⟩));refine HK.out _ _ ?_;exact HE.out HG.out _ _ _ _ _ _ _ _ _ _ _ _ _ _ _ _ _ _ _ _ _ _ _ _ _ _ _ _ _ _ _ _ _ _ _ _ _ _ _ _ _ _ _ _ _ _ _ _ _ _ _ _ _ _
 ·by_cases hF:k=2
  ·have hg:(decide (l=0)||(decide (k=2)||decide (k=3)))=true:=by rw [decide_eq_true hF,Bool.true_or,Bool.or_true]
   have HG:=qh hg;clear hg
   go_wp2_with (go_at_call 56;first|(refine (An _).mono ?_;rintro e w2 ⟨rfl,rfl⟩)|(refine (Al _).mono ?_;unfold Ai;rintro e w2 ⟨rfl,rfl⟩)|(refine (BO (by simp only [Bool.or_eq_false_iff,beq_eq_false_iff_ne,ne_eq];omega) _).mono ?_;unfold Ai;rintro e w2 ⟨rfl,rfl⟩));refine HK.out _ _ ?_;exact HE.out HG.out _ _ _ _ _ _ _ _ _ _ _ _ _ _ _ _ _ _ _ _ _ _ _ _ _ _ _ _ _ _ _ _ _ _ _ _ _ _ _ _ _ _ _ _ _ _ _ _ _ _ _ _ _ _
  ·by_cases hG:k=3
   ·have hg:(decide (l=0)||(decide (k=2)||decide (k=3)))=true:=by rw [decide_eq_true hG,Bool.or_true,Bool.or_true]
    have HG:=qh hg;clear hg
    go_wp2_with (go_at_call 56;first|(refine (An _).mono ?_;rintro e w2 ⟨rfl,rfl⟩)|(refine (Al _).mono ?_;unfold Ai;rintro e w2 ⟨rfl,rfl⟩)|(refine (BO (by simp only [Bool.or_eq_false_iff,beq_eq_false_iff_ne,ne_eq];omega) _).mono ?_;unfold Ai;rintro e w2 ⟨rfl,rfl⟩));refine HK.out _ _ ?_;exact HE.out HG.out _ _ _ _ _ _ _ _ _ _ _ _ _ _ _ _ _ _ _ _ _ _ _ _ _ _ _ _ _ _ _ _ _ _ _ _ _ _ _ _ _ _ _ _ _ _ _ _ _ _ _ _ _ _
   ·have hg:(decide (l=0)||(decide (k=2)||decide (k=3)))=false:=by rw [decide_eq_false (by omega:¬l=0),decide_eq_false hF,decide_eq_false hG];rfl
    have HG:=qh hg;clear hg
    go_wp2_with (go_at_call 56;first|(refine (An _).mono ?_;rintro e w2 ⟨rfl,rfl⟩)|(refine (Al _).mono ?_;unfold Ai;rintro e w2 ⟨rfl,rfl⟩)|(refine (BO (by simp only [Bool.or_eq_false_iff,beq_eq_false_iff_ne,ne_eq];omega) _).mono ?_;unfold Ai;rintro e w2 ⟨rfl,rfl⟩));refine HP.out HG.out _ ?_
    rfl
theorem Uz(k n u:Int)(un:Nm)(ia:Option Addr)(ic l:Nat)(ma:Option Addr)(mc m:Nat)(X:Nat)(Q:Exit→Act→World→Prop)(W:World)(hX:W.heap[X]?=some (.cells #[int i64 k,int i64 n,sv un,int i64 u,.slice ia l ic,.slice ma m mc] 121 (0,0)))(b:Bool)(C:∀V,Below W.heap.size W V→Calls Tryz.prog 58 #[.slice ia l ic] V (ExP b V))(ms:List Mov)(ks:List Int)(hB:ms.length=m)(hC:ms=[]∨ma=some ⟨blk ma,off ma,none⟩)(hD:m≤maxLen)(hE:Be W (blk ma) (off ma) ms)(hF:NsAt W (As (blk ma) (off ma) ms) ks)
  (hN:(Ex k n&&((decide (l=0)||(decide (k=2)||decide (k=3)))&&((decide (m=0)||decide (k=1))&&(ms.all Cr&&b))))=true→∀(x5 x9 aa ab ac ae af ag ah ai aj ak al am an ao ap aq ar au av aw ax ay az aA aB aC aD aE aF aG aH aI aJ aK aL aM aN aO aP aQ aR aS aT aU aV aW aX aY aZ ba bb bc:Value) (V:World),Below W.heap.size W V→Q .normal { tmps:=#[e0,e1,e2,.pointer (some ⟨X,0,none⟩),e4,x5,e6,e7,e8,x9,aa,ab,ac,ae,af,ag,ah,ai,aj,ak,al,am,an,ao,ap,aq,ar,au,av,aw,ax,ay,az,aA,aB,aC,aD,aE,aF,aG,aH,aI,aJ,aK,aL,aM,aN,aO,aP,aQ,aR,aS,aT,aU,aV,aW,aX,aY,aZ,ba,bb,bc],defers:=[] } V)
  (hP:(Ex k n&&((decide (l=0)||(decide (k=2)||decide (k=3)))&&((decide (m=0)||decide (k=1))&&(ms.all Cr&&b))))=false→∀(a:Act) (V:World),a.defers=[]→Below W.heap.size W V→Q (.panic BN) a V) :
  (Ab 1 Bq).wp Tryz.prog Q { tmps:=#[e0,e1,e2,.pointer (some ⟨X,0,none⟩),e4,e5,e6,e7,e8,e9,ea,eb,ec,ed,ee,ef,eg,eh,ei,ej,ek,el,em,en,eo,ep,eq,er,es,et,eu,ev,ew,ex,ey,ez,eA,eB,eC,eD,eE,eF,eG,eH,eI,eJ,eK,eL,eM,eN,eO,eP,eQ,eR,eS,eT,eU,eV,eW,eX,eY,eZ],defers:=[] } W:=by
 have y0:=Aa hX 0 rfl;have y1:=Aa hX 1 rfl;have HE:Hid (Ex k n=true→∀(y5 y9 y10 y11 y12 y13 y14 y15 y16 y17 y18 y19 y20 y21 y22 y23 y24 y25 y26 y27 y28 y29 y30 y31 y32 y33 y34 y35 y36 y37 y38 y39 y40 y41 y42 y43 y44 y45 y46 y47 y48 y49 y50 y51 y52 y53 y54 y55 y56 y57 y58 y59 y60 y61:Value),(Ab 2 Bq).wp Tryz.prog Q { tmps:=#[e0,e1,e2,.pointer (some ⟨X,0,none⟩),e4,y5,e6,e7,e8,y9,y10,y11,y12,y13,y14,y15,y16,y17,y18,y19,y20,y21,y22,y23,y24,y25,y26,y27,y28,y29,y30,y31,y32,y33,y34,y35,y36,y37,y38,y39,y40,y41,y42,y43,y44,y45,y46,y47,y48,y49,y50,y51,y52,y53,y54,y55,y56,y57,y58,y59,y60,y61],defers:=[] } W):=qh λh y5 y9 y10 y11 y12 y13 y14 y15 y16 y17 y18 y19 y20 y21 y22 y23 y24 y25 y26 y27 y28 y29 y30 y31 y32 y33 y34 y35 y36 y37 y38 y39 y40 y41 y42 y43 y44 y45 y46 y47 y48 y49 y50 y51 y52 y53 y54 y55 y56 y57 y58 y59 y60 y61=>UA k n u un ia ic l ma mc m X Q W hX b C ms ks hB hC hD hE hF e0 e1 e2 e4 y5 e6 e7 e8 y9 y10 y11 y12 y13 y14 y15 y16 y17 y18 y19 y20 y21 y22 y23 y24 y25 y26 y27 y28 y29 y30 y31 y32 y33 y34 y35 y36 y37 y38 y39 y40 y41 y42 y43 y44 y45 y46 y47 y48 y49 y50 y51 y52 y53 y54 y55 y56 y57 y58 y59 y60 y61 (λh2=>hN (by rw [h,h2];rfl)) (λh2=>hP (by rw [h,h2];rfl))
 have HP:Hid (Ex k n=false→∀(a:Act),a.defers=[]→Q (.panic BN) a W):=qh λh a hd=>hP (by rw [h];rfl) a W hd (Below.refl _ _)
 clear hX hN hP C hB hC hD hE hF;change Code.wp Tryz.prog (.seq OY (Ab 2 Bq)) _ _ _;refine Ae (λK hK=>?_);have HK:=qh hK;clear hK
 conv=>arg 2;whnf
 by_cases hA:k=2
 ·have hg:Ex k n=inB n 1 64:=by unfold Ex;rw [if_pos hA]
  obtain ⟨c,hc⟩:∃c,inB n 1 64=c:=⟨_,rfl⟩;rw [hc] at hg;have HG:=qh hg;have hG:=qh hc;clear hg hc
  cases c with
  | true =>
   go_wp2_with (first|(go_at_call 57;refine (Bs _ _ _ _).mono ?_;rw [hG.out];rintro e w2 ⟨rfl,rfl⟩)|(go_at_call 56;first|(refine (An _).mono ?_;rintro e w2 ⟨rfl,rfl⟩)|(refine (Al _).mono ?_;unfold Ai;rintro e w2 ⟨rfl,rfl⟩)|(refine (BO (by simp only [Bool.or_eq_false_iff,beq_eq_false_iff_ne,ne_eq];omega) _).mono ?_;unfold Ai;rintro e w2 ⟨rfl,rfl⟩)));refine HK.out _ _ ?_;exact HE.out HG.out _ _ _ _ _ _ _ _ _ _ _ _ _ _ _ _ _ _ _ _ _ _ _ _ _ _ _ _ _ _ _ _ _ _ _ _ _ _ _ _ _ _ _ _ _ _ _ _ _ _ _ _ _ _
  | false =>
   go_wp2_with (first|(go_at_call 57;refine (Bs _ _ _ _).mono ?_;rw [hG.out];rintro e w2 ⟨rfl,rfl⟩)|(go_at_call 56;first|(refine (An _).mono ?_;rintro e w2 ⟨rfl,rfl⟩)|(refine (Al _).mono ?_;unfold Ai;rintro e w2 ⟨rfl,rfl⟩)|(refine (BO (by simp only [Bool.or_eq_false_iff,beq_eq_false_iff_ne,ne_eq];omega) _).mono ?_;unfold Ai;rintro e w2 ⟨rfl,rfl⟩)));refine HP.out HG.out _ ?_
   rfl
 ·by_cases hH:n=0
  ·have hg:Ex k n=true:=by unfold Ex;rw [if_neg hA,decide_eq_true hH]
   have HG:=qh hg;clear hg
   go_wp2_with (go_at_call 56;first|(refine (An _).mono ?_;rintro e w2 ⟨rfl,rfl⟩)|(refine (Al _).mono ?_;unfold Ai;rintro e w2 ⟨rfl,rfl⟩)|(refine (BO (by simp only [beq_eq_false_iff_ne,ne_eq];omega) _).mono ?_;unfold Ai;rintro e w2 ⟨rfl,rfl⟩));refine HK.out _ _ ?_;exact HE.out HG.out _ _ _ _ _ _ _ _ _ _ _ _ _ _ _ _ _ _ _ _ _ _ _ _ _ _ _ _ _ _ _ _ _ _ _ _ _ _ _ _ _ _ _ _ _ _ _ _ _ _ _ _ _ _
  ·have hg:Ex k n=false:=by unfold Ex;rw [if_neg hA,decide_eq_false hH]
   have HG:=qh hg;clear hg
   go_wp2_with (go_at_call 56;first|(refine (An _).mono ?_;rintro e w2 ⟨rfl,rfl⟩)|(refine (Al _).mono ?_;unfold Ai;rintro e w2 ⟨rfl,rfl⟩)|(refine (BO (by simp only [beq_eq_false_iff_ne,ne_eq];omega) _).mono ?_;unfold Ai;rintro e w2 ⟨rfl,rfl⟩));refine HP.out HG.out _ ?_
   rfl
theorem IT(T:Lt)(hI:∀T':Lt,T'.size<T.size→∀(ia:Option Addr) (ic:Nat) (ns:List Int) (W:World),(T'.len=0∨ia=some ⟨blk ia,off ia,none⟩)→T'.len≤maxLen→T'.At W (blk ia) (off ia)→NsAt W (T'.refsL (blk ia) (off ia)) ns→Calls Tryz.prog 58 #[.slice ia T'.len ic] W (ExP T'.strip.exB W))
  (ia:Option Addr) (ic:Nat) (ns:List Int) (W:World) (hf:T.len=0∨ia=some ⟨blk ia,off ia,none⟩) (hl:T.len≤maxLen) (hT:T.At W (blk ia) (off ia)) (hN:NsAt W (T.refsL (blk ia) (off ia)) ns):Calls Tryz.prog 58 #[.slice ia T.len ic] W (ExP T.strip.exB W):=by
 have HI:=qh hI;have HT:=qh hT;have HF:=qh hf;have hU:=qh hN;clear hI hT hf hN;generalize hn:T.len=m at *;have HN:=qh hn;clear hn;unfold maxLen at hl;go_enter Tryz.func58,Tryz.ntmps58;go_wp2_with fail;go_loopw [8] (λiv wr=>∃(i:Nat) (R:Lt) (ks:List Int),iv=int i64 i∧i+R.len=m∧Hid (R.size≤T.size)∧Hid (T.strip.exB=R.strip.exB)∧Hid (R.At wr (blk ia) (off ia+i*6))∧Hid (NsAt wr (R.refsL (blk ia) (off ia+i*6)) ks)∧Hid (Below W.heap.size W wr)) (λiv _=>m+1-(intOf iv).toNat)
 case atStart=>exact ⟨0,T,ns,rfl,by rw [HN.out];omega,qh (qn _),qh rfl,by simpa [Hid] using HT.out,by simpa [Hid] using hU.out,qh (Below.refl _ _)⟩
 case round =>
  obtain ⟨i,R,ks,rfl,hF,hG,hH,hR,hK,hB⟩:=hrel
  cases R with
  | nil =>
   simp only [Lt.len,Nat.add_zero] at hF;subst hF;go_wp2_with fail;go_end0;exact ⟨Or.inl ⟨hH.out,rfl⟩,hB.out⟩
  | cons k n un ja jc its ma mc ms r =>
   simp only [Lt.len] at hF;have hi:(i:Int)<(m:Int):=by omega
   have e:=HF.out.resolve_left (by omega);obtain ⟨u,g0,g1,g2,g3,g4,g5,m1,m2,m3,hJ,k1,k2,k3⟩:=Lt.At.cells hR.out hK.out;obtain ⟨_,⟨f1,f2,f3⟩,⟨i1,i2,i3⟩,hr⟩:=hR.out;have hL:its.size<T.size:=by have:=hG.out;simp only [Lt.size] at this;omega
   have hA:r.size≤T.size:=by have:=hG.out;simp only [Lt.size] at this;omega
   obtain ⟨W2,hM,gW2,bW2,sW2⟩:=Af wr #[int i64 k,int i64 n,sv un,int i64 u,.slice ja its.len jc,.slice ma ms.length mc] 121;have C:=λ(V:World) (hv:Below W2.heap.size W2 V)=>HI.out its hL ja jc m2 V i1 i2 (i3.below (Ag bW2 hv)) (k2.below (Ag bW2 hv))
   have hx:T.strip.exB=(Ex k n&&((decide (its.len=0)||(decide (k=2)||decide (k=3)))&&((decide (ms.length=0)||decide (k=1))&&((ms.all Cr&&its.strip.exB)&&r.strip.exB)))):=by
    rw [hH.out];simp only [Lt.strip,Its.exB,Lt.strip_len]
   have HC:=qh C;have HX:=qh hx;have hV:=qh gW2;have hO:=qh bW2;have hW:=qh hM;have hD:=qh (And.intro f1 (And.intro f2 (And.intro (Cf f3 bW2) (k1.below bW2))))
   have HR:Hid (r.At wr (blk ia) (off ia+(i+1)*6)∧NsAt wr (r.refsL (blk ia) (off ia+(i+1)*6)) m3):=qh (by
    rw [show off ia+(i+1)*6=off ia+i*6+6 by omega]
    exact ⟨hr,k3⟩)
   have hC:(#[int i64 k,int i64 n,sv un,int i64 u,.slice ja its.len jc,.slice ma ms.length mc]:Array Value).all (·.oneCell')=true:=by simp [Value.oneCell']
   have hX:=qh hC;have hY:=qh hA;clear C hx gW2 bW2 sW2 hM f1 f2 f3 i1 i2 i3 hr hL k1 k2 k3 hJ hR hK hH hG hC hA;generalize hZ:blk ia=bb at *;generalize ha:off ia=oo at *;subst e;clear hZ ha HF;refine Ae (λK1 hK=>?_);have hP:=qh hK;clear hK;go_wp2_with fail;refine hP.out _ _ ?_;clear hP K1;refine Ae (λK2 hK=>?_);have hQ:=qh hK;clear hK;go_wp2_with fail;refine hQ.out _ _ ?_;clear hQ K2;refine Ae (λK3 hK=>?_);have hb:=qh hK;clear hK;refine wp_block ?_;refine Ae (λK4 hK=>?_);have hS:=qh hK;clear hK;go_wp2_with fail;refine hS.out _ _ ?_;clear hS K4;rw [hW.out];change Code.wp Tryz.prog (Ab 1 Bq) _ _ _;refine Uz k n u un ja jc its.len ma mc ms.length wr.heap.size _ W2 hV.out its.strip.exB HC.out ms m1 rfl hD.out.1 hD.out.2.1 hD.out.2.2.1 hD.out.2.2.2 (λhc=>?_) (λhc=>?_)
   ·intros
    rename_i V hv;refine hb.out _ _ ?_
    have hE:T.strip.exB=r.strip.exB:=by
     rw [HX.out];simp only [Bool.and_eq_true] at hc;obtain ⟨h1,h2,h3,h4⟩:=hc;rw [h1,h2,h3,h4.1,h4.2]
     rfl
    have he:=qh hE;have HV:=qh (Ag hO.out hv);clear hE hv hc HX;go_wp2_with fail;go_roundw
    case rel=>exact ⟨i+1,r,m3,by go_num,by omega,hY,he,qh (HR.out.1.below HV.out),qh (HR.out.2.below HV.out),qh (Ag hB.out HV.out)⟩
    case measure=>simp [intOf];omega
   ·intro a V hd hv
    have hE:T.strip.exB=false:=by
     rw [HX.out];generalize its.strip.exB=q1 at hc;generalize r.strip.exB=q2;generalize Ex k n=q3 at hc;generalize (decide (its.len=0)||(decide (k=2)||decide (k=3)))=q4 at hc;generalize (decide (ms.length=0)||decide (k=1))=q5 at hc;generalize ms.all Cr=q6 at hc
     revert hc
     cases q1<;>cases q2<;>cases q3<;>cases q4<;>cases q5<;>cases q6<;>decide
    exact ⟨hd,Or.inr ⟨hE,rfl⟩,Ag hB.out (Ag hO.out hv)⟩
theorem P8:∀(s:Nat) (T:Lt),T.size≤s→∀(ia:Option Addr) (ic:Nat) (ns:List Int) (W:World),(T.len=0∨ia=some ⟨blk ia,off ia,none⟩)→T.len≤maxLen→T.At W (blk ia) (off ia)→NsAt W (T.refsL (blk ia) (off ia)) ns→Calls Tryz.prog 58 #[.slice ia T.len ic] W (ExP T.strip.exB W):=by
 intro s
 induction s with
 | zero=>intro T hs;exact IT T (λT' hA=>absurd hA (by omega))
 | succ s ih=>intro T hs;exact IT T (λT' hA=>ih T' (by omega))
theorem RD(k:Int)(N I G i n c m:Nat)(ks:List Int)(W:World)(hB:i<n)(_hn:n≤maxLen)(hN:W.heap[N]?=some (.cells #[.slice (some ⟨G,0,none⟩) n c] 157 (0,0)))(hI:W.heap[I]?=some (.cells #[int i64 i] 3 (0,0)))(hG:W.cell? ⟨G,i,none⟩=some (.map (some m)))(hS:SetB W m ks) :
  Calls Tryz.prog 93 #[int i64 k,.pointer (some ⟨N,0,none⟩),.pointer (some ⟨I,0,none⟩)] W λe W'=>e=.returned (.tuple #[])∧SetB W' m (AY ks k)∧W.grownBy W' (some m)∧W'.heap.size=W.heap.size:=by
 obtain ⟨W',hA,h1,h2,h3,h4⟩:=hS.put (P:=Tryz.prog) (T:=158) Tryz.underlying158 Tryz.underlying3 k;have y0:=Aa hN 0 rfl;have y1:=Aa hI 0 rfl;unfold maxLen at _hn;have HS:Hid (SetB W' m (AY ks k)):=qh h1;have HG:Hid (W.grownBy W' (some m)):=qh ⟨(h4 0 (Nat.zero_le _)).os,(h4 0 (Nat.zero_le _)).tape,(h4 0 (Nat.zero_le _)).output,Nat.le_of_eq h3.symm,λc _ hc=>h2 c (λe=>hc (by rw [e]))⟩;have HZ:=qh h3;clear h1 h2 h3 h4 hN hI hS;have hi:(i:Int)<(n:Int):=by omega
 go_enter Tryz.func93,Tryz.ntmps93;go_wp2_with fail;go_end0;exact ⟨rfl,HS.out,HG.out,HZ.out⟩
def Its.uses(f:Nm→Int):Its→List Int
 | .nil=>[]
 | .cons k _ un its _ r=>(if k=4 then [f un] else [])++(its.uses f++r.uses f)
def NumAt(f:Nm→Int)(w:World)(xs:List RefL):Prop:=∀x∈xs,∃n,w.cell? ⟨x.b,x.o+1,none⟩=some (int i64 n)∧(x.to=2→n=f x.nm)
theorem NumAt.ns{f:Nm→Int}{w:World}:∀{xs:List RefL},NumAt f w xs→∃ns,NsAt w xs ns
 | [],_=>⟨[],trivial⟩
 | x::xs,h=>by
  obtain ⟨n,h1,_⟩:=h x (by simp);obtain ⟨ns,h2⟩:=NumAt.ns (xs:=xs) (λy hy=>h y (by simp [hy]));exact ⟨n::ns,h1,h2⟩
def ED(w:World)(m:Nat):Prop:=∃es c,w.heap[m]?=some (.map es c)
theorem SetB.isMap{w:World}{m:Nat}{ks:List Int}(h:SetB w m ks):ED w m:=by
 obtain ⟨es,c,h1,_⟩:=h.stamp;exact ⟨es,c,h1⟩
theorem Ki{w:World}{a:Addr}{v:Value}{m:Nat}(h:w.cell? a=some v)(hm:ED w m):a.block≠m:=by
 rintro rfl;obtain ⟨es,c,h1⟩:=hm;unfold World.cell? at h;rw [h1] at h;cases h
theorem BH{w w':World}{a:Addr}{v:Value}{m:Nat}(h:w.cell? a=some v)(hm:ED w m)(hg:w.grownBy w' (some m)):w'.cell? a=some v:=by
 have:=hg.block a.block (CN h) (λe=>Ki h hm (by cases e;rfl));rw [← h];unfold World.cell?;rw [this]
theorem Ce{w w':World}{b m:Nat}{cs:Array Value}{t:TypeId}(h:w.heap[b]?=some (.cells cs t (0,0)))(hm:ED w m)(hg:w.grownBy w' (some m)):w'.heap[b]?=some (.cells cs t (0,0)) :=
 (hg.block b (qs.1 h).1 (λe=>by cases e;obtain ⟨es,c,h1⟩:=hm;rw [h1] at h;cases h)).trans h
theorem NumAt.grown{f:Nm→Int}{w w':World}{xs:List RefL}{m:Nat}(h:NumAt f w xs)(hm:ED w m)(hg:w.grownBy w' (some m)):NumAt f w' xs:=λx hx=>by
 obtain ⟨n,h1,h2⟩:=h x hx;exact ⟨n,BH h1 hm hg,h2⟩
theorem NumAt.below{f:Nm→Int}{w w':World}{xs:List RefL}(h:NumAt f w xs)(hb:Below w.heap.size w w'):NumAt f w' xs:=λx hx=>by
 obtain ⟨n,h1,h2⟩:=h x hx;exact ⟨n,Ad hb h1,h2⟩
theorem Lt.At.grown{w w':World}{T:Lt}{b o m:Nat}(h:T.At w b o)(hm:ED w m)(hg:w.grownBy w' (some m)):T.At w' b o :=
 h.kept (λ_ _ _ h=>BH h hm hg) (λ_ _ _ _ h=>BH h hm hg)
structure RingC(W:World)(N I G i n c m:Nat)(ks:List Int):Prop where
 box:W.heap[N]?=some (.cells #[.slice (some ⟨G,0,none⟩) n c] 157 (0,0))
 idx:W.heap[I]?=some (.cells #[int i64 i] 3 (0,0))
 at_:W.cell? ⟨G,i,none⟩=some (.map (some m))
 set_:SetB W m ks
theorem RingC.kept{W W':World}{N I G i n c m:Nat}{ks ks':List Int}(h:RingC W N I G i n c m ks)(hg:W.grownBy W' (some m))(hs:SetB W' m ks'):RingC W' N I G i n c m ks' :=
 ⟨Ce h.box h.set_.isMap hg,Ce h.idx h.set_.isMap hg,BH h.at_ h.set_.isMap hg,hs⟩
theorem RingC.below{W W':World}{N I G i n c m:Nat}{ks:List Int}(h:RingC W N I G i n c m ks)(hb:Below W.heap.size W W'):RingC W' N I G i n c m ks :=
 ⟨Ah hb h.box,Ah hb h.idx,Ad hb h.at_,h.set_.below hb h.set_.lt⟩
theorem PP(k:Int){N I G i n c m:Nat}{ks:List Int}{W:World}(hA:i<n)(hn:n≤maxLen)(h:RingC W N I G i n c m ks) :
  Calls Tryz.prog 93 #[int i64 k,.pointer (some ⟨N,0,none⟩),.pointer (some ⟨I,0,none⟩)] W λe W'=>e=.returned (.tuple #[])∧RingC W' N I G i n c m (AY ks k)∧W.grownBy W' (some m)∧W'.heap.size=W.heap.size :=
 (RD k N I G i n c m ks W hA hn h.box h.idx h.at_ h.set_).mono λ_ _ ⟨h1,h2,h3,h4⟩=>⟨h1,h.kept h3 h2,h3,h4⟩
abbrev Pw(N I:Nat):Value:=.func (.func 93) #[] #[.pointer (some ⟨N,0,none⟩),.pointer (some ⟨I,0,none⟩)]
def SJ(f:Nm→Int)(T:Lt)(N I G i n c m:Nat)(ks:List Int)(W:World)(e:Ending)(W':World):Prop:=e=.returned (.tuple #[])∧RingC W' N I G i n c m ((T.strip.uses f).foldl AY ks)∧W.grownBy W' (some m)
theorem NumAt.mov{f:Nm→Int}{w:World}{k n:Int}{un:Nm}{ia:Option Addr}{ic:Nat}{its:Lt}{ma:Option Addr}{mc:Nat}{ms:List Mov}{r:Lt}{b o:Nat}(h:NumAt f w ((Lt.cons k n un ia ic its ma mc ms r).refsL b o)) :
  (∃u,w.cell? ⟨b,o+3,none⟩=some (int i64 u)∧(k=4→u=f un))∧NumAt f w (As (blk ma) (off ma) ms)∧NumAt f w (its.refsL (blk ia) (off ia))∧NumAt f w (r.refsL b (o+6)):=by
 refine ⟨?_,λx hx=>h x (by simp [Lt.refsL,hx]),λx hx=>h x (by simp [Lt.refsL,hx]),λx hx=>h x (by simp [Lt.refsL,hx])⟩;obtain ⟨u,h1,h2⟩:=h ⟨b,o+2,By k,un⟩ (by simp [Lt.refsL]);exact ⟨u,h1,λhk=>h2 (by simp [By,hk])⟩
theorem CV{w w2 w':World}{m:Nat}(hb:Below w.heap.size w w2)(hg:w2.grownBy w' (some m)):w.grownBy w' (some m) :=
 ⟨hg.os.trans hb.os,hg.tape.trans hb.tape,hg.output.trans hb.output,Nat.le_trans hb.size hg.size,λk hk hn=>(hg.block k (Nat.lt_of_lt_of_le hk hb.size) hn).trans (hb.block k hk)⟩
theorem Bx{w w2 w':World}{m:Nat}(hb:w.grownBy w2 (some m))(hg:w2.grownBy w' (some m)):w.grownBy w' (some m) :=
 ⟨hg.os.trans hb.os,hg.tape.trans hb.tape,hg.output.trans hb.output,Nat.le_trans hb.size hg.size,λk hk hn=>(hg.block k (Nat.lt_of_lt_of_le hk hb.size) hn).trans (hb.block k hk hn)⟩
theorem Jn(f:Nm→Int)(N I G i n c m:Nat)(hD:i<n)(hn:n≤maxLen)(T:Lt)
  (hI:∀T':Lt,T'.size<T.size→∀(ia:Option Addr) (ic:Nat) (ks:List Int) (W:World),(T'.len=0∨ia=some ⟨blk ia,off ia,none⟩)→T'.len≤maxLen→T'.At W (blk ia) (off ia)→NumAt f W (T'.refsL (blk ia) (off ia))→RingC W N I G i n c m ks→Calls Tryz.prog 92 #[.slice ia T'.len ic,Pw N I] W (SJ f T' N I G i n c m ks W))
  (ia:Option Addr) (ic:Nat) (ks:List Int) (W:World) (hf:T.len=0∨ia=some ⟨blk ia,off ia,none⟩) (hl:T.len≤maxLen) (hT:T.At W (blk ia) (off ia)) (hU:NumAt f W (T.refsL (blk ia) (off ia))) (hC:RingC W N I G i n c m ks):Calls Tryz.prog 92 #[.slice ia T.len ic,Pw N I] W (SJ f T N I G i n c m ks W):=by
 have HI:=qh hI;have HT:=qh hT;have HF:=qh hf;have HU:=qh hU;have HC:=qh hC;have CP:=λ(k:Int) (ks:List Int) (V:World) (h:RingC V N I G i n c m ks)=>PP k hD hn h
 have he:=qh CP;clear hI hT hf hU hC CP;generalize hm:T.len=q at *;have HM:=qh hm;clear hm;unfold maxLen at hl;go_enter Tryz.func92,Tryz.ntmps92;go_wp2_with fail;go_loopw [8] (λiv wr=>∃(j:Nat) (R:Lt) (us:List Int),iv=int i64 j∧j+R.len=q∧Hid (R.size≤T.size)∧Hid ((T.strip.uses f).foldl AY ks=(R.strip.uses f).foldl AY us)∧Hid (R.At wr (blk ia) (off ia+j*6))∧Hid (NumAt f wr (R.refsL (blk ia) (off ia+j*6)))∧Hid (RingC wr N I G i n c m us)∧Hid (W.grownBy wr (some m))) (λiv _=>q+1-(intOf iv).toNat)
 case atStart=>exact ⟨0,T,ks,rfl,by rw [HM.out];omega,qh (qn _),qh rfl,by simpa [Hid] using HT.out,by simpa [Hid] using HU.out,HC,qh (World.grownBy.refl _ _)⟩
 case round =>
  obtain ⟨j,R,us,rfl,hD,hJ,hL,hR,hK,hC,hB⟩:=hrel
  cases R with
  | nil =>
   simp only [Lt.len,Nat.add_zero] at hD;subst hD;go_wp2_with fail;go_end0;refine ⟨rfl,?_,hB.out⟩;rw [hL.out];exact hC.out
  | cons kk nn un ja jc its ma mc ms r =>
   simp only [Lt.len] at hD;have hi:(j:Int)<(q:Int):=by omega
   have e:=HF.out.resolve_left (by omega);obtain ⟨⟨u,g3,hu⟩,_,k2,k3⟩:=hK.out.mov;obtain ⟨⟨g0,g1,g2,g4,g5⟩,_,⟨i1,i2,i3⟩,hr⟩:=hR.out;have hV:its.size<T.size:=by have:=hJ.out;simp only [Lt.size] at this;omega
   have hE:r.size≤T.size:=by have:=hJ.out;simp only [Lt.size] at this;omega
   obtain ⟨W2,hq,gW2,bW2,sW2⟩:=Af wr #[int i64 kk,int i64 nn,sv un,int i64 u,.slice ja its.len jc,.slice ma ms.length mc] 121;have hM:=hC.out.below bW2;have hg:=hB.out;have hM2:=hM.set_.isMap;have hW:=hC.out.set_.isMap
   -- the call of itself,from whatever world behind the box
   have C:=λ(V:World) (us:List Int) (hv:W2.grownBy V (some m)) (hc:RingC V N I G i n c m us)=>HI.out its hV ja jc us V i1 i2 ((i3.below bW2).grown hM2 hv) ((k2.below bW2).grown hM2 hv) hc
   have hX:=qh C
   have hx:(T.strip.uses f).foldl AY ks=(r.strip.uses f).foldl AY ((its.strip.uses f).foldl AY ((if kk=4 then [f un] else []).foldl AY us)):=by
    rw [hL.out];simp only [Lt.strip,Its.uses,List.foldl_append]
   have HX:=qh hx
   have HR:Hid (r.At wr (blk ia) (off ia+(j+1)*6)∧NumAt f wr (r.refsL (blk ia) (off ia+(j+1)*6))):=qh (by
    rw [show off ia+(j+1)*6=off ia+j*6+6 by omega]
    exact ⟨hr,k3⟩)
   have y0:=Aa gW2 0 rfl;have y3:=Aa gW2 3 rfl;have y4:=Aa gW2 4 rfl;have hs:=qh gW2;have hY:=qh bW2;have hZ:=qh hM;have hh:=qh hM2;have ha:=qh hE;have hH:=qh hW;clear C hx gW2 bW2 sW2 i1 i2 i3 hr hV k2 k3 hR hK hL hJ hE hM hM2 hW hg hC;generalize hj:blk ia=bb at *;generalize hk:off ia=oo at *;subst e;clear hj hk HF;by_cases h4:kk=4
   ·subst h4
    have hN:=hu rfl;have ht:=qh hN;have hO:Hid ((T.strip.uses f).foldl AY ks=(r.strip.uses f).foldl AY ((its.strip.uses f).foldl AY (AY us u))):=qh (by rw [HX.out,if_pos rfl,← hN];rfl);clear hN hu
    go_wp2_with (first
     | (go_at_call 93;refine (he.out _ _ _ hZ.out).mono ?_;rintro e V ⟨rfl,hb,hP,ho⟩;have hp:=qh hb;have hd:=qh hP;have z4:=BH y4 hh.out hP;clear hb hP ho)
     | (go_at_call 92;refine (hX.out _ _ hd.out hp.out).mono ?_;rintro e V2 ⟨rfl,hF,hG⟩;have hQ:=qh hF;have hS:=qh hG;clear hF hG))
    have hA:=CV hY.out (Bx hd.out hS.out);go_roundw
    case rel=>exact ⟨j+1,r,_,by go_num,by omega,ha,hO,qh (HR.out.1.grown hH.out hA),qh (HR.out.2.grown hH.out hA),hQ,qh (Bx hB.out hA)⟩
    case measure=>simp [intOf];omega
   ·have hO:Hid ((T.strip.uses f).foldl AY ks=(r.strip.uses f).foldl AY ((its.strip.uses f).foldl AY us)):=qh (by rw [HX.out,if_neg h4];rfl)
    clear hu
    go_wp2_with (first
     | (go_at_call 92;refine (hX.out _ _ (World.grownBy.refl _ _) hZ.out).mono ?_;rintro e V2 ⟨rfl,hF,hG⟩;have hQ:=qh hF;have hS:=qh hG;clear hF hG))
    have hA:=CV hY.out hS.out;go_roundw
    case rel=>exact ⟨j+1,r,_,by go_num,by omega,ha,hO,qh (HR.out.1.grown hH.out hA),qh (HR.out.2.grown hH.out hA),hQ,qh (Bx hB.out hA)⟩
    case measure=>simp [intOf];omega
theorem Qs(f:Nm→Int)(N I G i n c m:Nat)(hA:i<n)(hn:n≤maxLen):∀(s:Nat) (T:Lt),T.size≤s→∀(ia:Option Addr) (ic:Nat) (ks:List Int) (W:World),(T.len=0∨ia=some ⟨blk ia,off ia,none⟩)→T.len≤maxLen→T.At W (blk ia) (off ia)→NumAt f W (T.refsL (blk ia) (off ia))→RingC W N I G i n c m ks→Calls Tryz.prog 92 #[.slice ia T.len ic,Pw N I] W (SJ f T N I G i n c m ks W):=by
 intro s
 induction s with
 | zero=>intro T hs;exact Jn f N I G i n c m hA hn T (λT' hB=>absurd hB (by omega))
 | succ s ih=>intro T hs;exact Jn f N I G i n c m hA hn T (λT' hB=>ih T' (by omega))
theorem R0:(Tryz.prog.info? 158).map (λi=>(i.zero,i.size,i.bytes))=some (some (.map none),1,8):=by kernel_rfl
theorem Tq(v:Value)(n:Nat):madeCells #[v] n=(List.replicate n v).toArray:=by
 unfold madeCells;apply Array.ext
 ·simp
 ·intro j h1 h2
  simp [Nat.mod_one]
theorem NG(m:Nat)(hm:m≤1000)(w:World):(Instr.makeSlice 157 (int i64 m) (int i64 m)).run Tryz.prog w=.ok (.slice (some ⟨w.heap.size,0,none⟩) m m) (w.alloc (.cells (Array.replicate m (.map none)) 158)):=by
 obtain ⟨i,h1,h2,h3,h4⟩:=info_parts R0;have h:=run_make (P:=Tryz.prog) w 157 158 i (.map none) Tryz.underlying157 h1 h2 .i64 .i64 m m (by omega) (Int.le_refl _) (by rw [h4];omega) (by omega);rw [h,h3];simp [Value.cells,Tq]
def FM(n:Nat)(ms:List Nat):Array Value:=((List.range n).map λj=>Value.map ms[j]?).toArray
theorem Od(n:Nat):Array.replicate n (Value.map none)=FM n []:=by
 unfold FM;apply Array.ext
 ·simp
 ·intro j h1 h2
  simp
theorem DG{n:Nat}(ms:List Nat){j:Nat}(h:j<n):(FM n ms)[j]?=some (.map ms[j]?):=by
 unfold FM;simp [h]
theorem FN(n:Nat)(ms:List Nat):(FM n ms).size=n:=by simp [FM]
theorem Oc(n:Nat)(ms:List Nat)(m:Nat)(h:ms.length<n):(FM n ms).setIfInBounds ms.length (.map (some m))=FM n (ms++[m]):=by
 apply Array.ext
 ·simp [FN]
 ·intro j h1 h2
  have hj:j<n:=by simpa [FN] using h2
  have e2:(FM n (ms++[m]))[j]?=some (.map (ms++[m])[j]?):=DG _ hj
  have e1:((FM n ms).setIfInBounds ms.length (.map (some m)))[j]?=some (.map (ms++[m])[j]?):=by
   rw [Array.getElem?_setIfInBounds];by_cases he:ms.length=j
   ·rw [if_pos he,if_pos (by rw [FN];omega)]
    subst he;simp
   ·rw [if_neg he,DG ms hj]
    rcases Nat.lt_or_ge j ms.length with h3|h3
    ·rw [List.getElem?_append_left h3]
    ·rw [List.getElem?_append_right h3,List.getElem?_eq_none h3,List.getElem?_eq_none (by simp;omega)]
  rw [Array.getElem?_eq_getElem h1] at e1;rw [Array.getElem?_eq_getElem h2] at e2;exact Option.some.inj (e1.trans e2.symm)
structure RgS(s:Ls)(f:Nm→Int)(B:Nat)(W:World):Prop where
 at_:s.At W
 box:W.heap[B]?=some (.cells s.cells 30 (0,0))
 nums:NumAt f W (Ar s.phrases)
theorem RgS.below{s:Ls}{f:Nm→Int}{B:Nat}{W W':World}(h:RgS s f B W)(hb:Below W.heap.size W W'):RgS s f B W':=⟨h.at_.below hb,Ah hb h.box,h.nums.below hb⟩
def Ls.nexts(s:Ls)(f:Nm→Int):List (List Int):=s.phrases.map λp=>(p.its.strip.uses f).foldl AY []
structure NextW(w W:World)(N G n:Nat)(kss:List (List Int))(ms:List Nat):Prop where
 below:Below w.heap.size w W
 lowN:w.heap.size≤N
 lowG:w.heap.size≤G
 box:W.heap[N]?=some (.cells #[.slice (some ⟨G,0,none⟩) n n] 157 (0,0))
 row:W.heap[G]?=some (.cells (FM n ms) 158 (0,0))
 len:ms.length≤n
 low:∀m∈ms,w.heap.size≤m
 sets:∀(j m:Nat) (ks:List Int),ms[j]?=some m→kss[j]?=some ks→SetB W m ks
 apart:ms.Nodup
theorem NextW.keep{w W W':World}{N G n:Nat}{kss:List (List Int)}{ms:List Nat}(h:NextW w W N G n kss ms)(hb:Below W.heap.size W W'):NextW w W' N G n kss ms :=
 ⟨Ag h.below hb,h.lowN,h.lowG,Ah hb h.box,Ah hb h.row,h.len,h.low,λj m ks h1 h2=>(h.sets j m ks h1 h2).below hb (h.sets j m ks h1 h2).lt,h.apart⟩
theorem CY{W:World}{G i:Nat}{cs:Array Value}{t:TypeId}(v:Value)(h:W.heap[G]?=some (.cells cs t (0,0))):(W.setCell ⟨G,i,none⟩ v).heap[G]?=some (.cells (cs.setIfInBounds i v) t (0,0)):=by
 simp only [World.setCell,Array.getElem?_modify,h,if_true,Option.map_some]
 rfl
theorem AX{W:World}{G i c:Nat}(v:Value)(h:c≠G):(W.setCell ⟨G,i,none⟩ v).heap[c]?=W.heap[c]?:=by
 simp only [World.setCell,Array.getElem?_modify];rw [if_neg (λe=>h e.symm)]
theorem JW{W:World}(a:Addr)(v:Value):(W.setCell a v).heap.size=W.heap.size:=by simp [World.setCell]
theorem PF{W:World}{G:Nat}{cs:Array Value}{t:TypeId}(h:W.heap[G]?=some (.cells cs t (0,0))){m:Nat}(hm:ED W m):m≠G:=by
 rintro rfl;obtain ⟨es,c,h1⟩:=hm;rw [h] at h1;cases h1
theorem NextW.lay{w wr W2 W3 W4:World}{N G n:Nat}{kss:List (List Int)}{ms:List Nat}(h:NextW w wr N G n kss ms)(hb:Below wr.heap.size wr W2)(h3:W2.alloc (.map #[] 0)=W3)(h4:W3.setCell ⟨G,ms.length,none⟩ (.map (some W2.heap.size))=W4)(hC:ms.length<n) :
  Below w.heap.size w W4∧W4.heap[G]?=some (.cells (FM n (ms++[W2.heap.size])) 158 (0,0))∧W4.heap[N]?=some (.cells #[.slice (some ⟨G,0,none⟩) n n] 157 (0,0))∧SetB W4 W2.heap.size []∧(∀c,c<W2.heap.size→c≠G→W4.heap[c]?=W2.heap[c]?)∧W4.heap.size=W2.heap.size+1:=by
 have b3:Below W2.heap.size W2 W3:=by rw [← h3];exact (Below.refl _ _).alloc (qn _) _
 have hB:=Ah hb h.row;have hA:=Ah hb h.box
 have hD:N≠G:=by
  rintro e;rw [e] at hA;rw [hB] at hA;injection hA with e1;injection e1 with e1 e2;cases e2
 have hE:=Ah b3 hB;have hH:G<W2.heap.size:=(qs.1 hB).1;have hF:=Ag h.below hb;have hG:SetB W3 W2.heap.size []:=by rw [← h3];exact SetB.new W2
 refine ⟨?_,?_,?_,?_,λc h1 h2=>?_,?_⟩
 ·rw [← h4]
  exact (Ag hF b3).setCell (p:=⟨G,ms.length,none⟩) h.lowG _
 ·rw [← h4,CY _ hE,Oc n ms _ hC]
 ·rw [← h4,AX _ hD];exact Ah b3 hA
 ·refine hG.of_block ?_
  rw [← h4,AX _ (by omega)]
 ·rw [← h4,AX _ h2];exact b3.block c h1
 ·rw [← h4,JW,← h3];simp
theorem NextW.step{w wr W2 W4 V:World}{N G n:Nat}{kss:List (List Int)}{ms:List Nat}{ks:List Int}(h:NextW w wr N G n kss ms)(hb:Below wr.heap.size wr W2)(hJ:ms.length<n)
  (h4:Below w.heap.size w W4∧W4.heap[G]?=some (.cells (FM n (ms++[W2.heap.size])) 158 (0,0))∧W4.heap[N]?=some (.cells #[.slice (some ⟨G,0,none⟩) n n] 157 (0,0))∧SetB W4 W2.heap.size []∧(∀c,c<W2.heap.size→c≠G→W4.heap[c]?=W2.heap[c]?)∧W4.heap.size=W2.heap.size+1)
  (hg:W4.grownBy V (some W2.heap.size)) (hs:SetB V W2.heap.size ks) (hk:kss[ms.length]?=some ks):NextW w V N G n kss (ms++[W2.heap.size]):=by
 obtain ⟨q1,q2,q3,q4,q5,q6⟩:=h4;have hm:=q4.isMap;have hB:w.heap.size≤W2.heap.size:=Nat.le_trans h.below.size hb.size;refine ⟨q1.grown hg (by omega) (λk hk=>by cases hk;exact hB),h.lowN,h.lowG,Ce q3 hm hg,Ce q2 hm hg,by simp;omega,λm hA=>?_,λj m ks' h1 h2=>?_,?_⟩
 ·rcases List.mem_append.1 hA with hA|hA
  ·exact h.low m hA
  ·simp at hA;omega
 ·rcases Nat.lt_or_ge j ms.length with hj|hj
  ·rw [List.getElem?_append_left hj] at h1
   have hC:=h.sets j m ks' h1 h2;have hG:m≠G:=PF h.row hC.isMap;have hE:=hC.lt;have hH:=hb.block m hE;refine (hC.of_block hH).of_block ?_;have hD:m<W2.heap.size:=Nat.lt_of_lt_of_le hE hb.size;rw [hg.block m (by omega) (λe=>by cases e;omega),q5 m hD hG]
  ·have:j=ms.length:=by
    have:=(ql.1 h1).1;simp at this;omega
   subst this;rw [List.getElem?_append_right (qn _)] at h1;simp at h1;subst h1;rw [hk] at h2;cases h2;exact hs
 ·rw [List.nodup_append]
  refine ⟨h.apart,by simp,λa ha b hF=>?_⟩;simp at hF;subst hF;rintro rfl;obtain ⟨j,hj⟩:=List.getElem?_of_mem ha
  obtain ⟨ks',hI⟩:∃ks',kss[j]?=some ks':=⟨_,qg (by
   have:=(ql.1 hj).1;have:=(ql.1 hk).1
   omega)⟩
  have:=(h.sets j _ ks' hj hI).lt;have:=hb.size;omega
noncomputable def Ci:Code:=(Tryz.f59.body).getD .skip
noncomputable def OW:Code:=qe 0 Ci
noncomputable def OX:Code:=qe 1 Ci
noncomputable def elem61n2:Code:=qe 2 Ci
noncomputable def Ku:Code:=qe 3 Ci
theorem RN:Ab 1 Ci=.seq OX (Ab 2 Ci):=rfl
theorem RO:Ab 2 Ci=.seq elem61n2 (Ab 3 Ci):=rfl
theorem RP:Ab 3 Ci=.seq Ku (Ab 4 Ci):=rfl
theorem CE:∀{ps:List Ph} {i:Nat} {p:Ph} {x:RefL},ps[i]?=some p→x∈p.its.refsL (blk p.ia) (off p.ia)→x∈Ar ps
 | [],_,_,_,h,_=>by cases h
 | q::r,0,p,x,h,hx=>by cases h;exact List.mem_append.2 (Or.inl hx)
 | q::r,i+1,p,x,h,hx=>List.mem_append.2 (Or.inr (CE (ps:=r) (i:=i) (by simpa using h) hx))
theorem UN(s:Ls)(f:Nm→Int)(B N G:Nat)(w W:World)(hs:RgS s f B w)(hn:s.phrases.length≤1000)(hW:NextW w W N G s.phrases.length (s.nexts f) [])(Q:Exit→Act→World→Prop)
  (hK:∀(ms:List Nat) (x4 x5 x6 x7 x8 x9 bP bQ bR bS bT bU bV bW bY bZ ca cb cc cd ce cf cg ch ci cj ck cm cn co cp cq cr cs ct cu cv cw cx cy cz cA cB cC cD cE cF cG cH cI cJ cK cL cM cN cO cP cQ cR cS cT cU cV cW cX cY cZ da db dc dd de df dg dh di dj dk dl dm dn dp dq dr ds dt du dv dw dx dy dz dA dB dC dD dE dF dG dH dI dJ dK dL dM dN dO dP dQ dR dS dT dU dV dW dX dY dZ fd fe ff fg fh fi fj fk fl fm fn fp fq fr fs ft fu fv fw fx fy fz fA fB fC fD fE fF fG:Value) (V:World),NextW w V N G s.phrases.length (s.nexts f) ms→ms.length=s.phrases.length→Q .normal { tmps:=#[e0,.pointer (some ⟨B,0,none⟩),e2,.pointer (some ⟨N,0,none⟩),x4,x5,x6,x7,x8,x9,bP,bQ,bR,bS,bT,bU,bV,bW,bY,bZ,ca,cb,cc,cd,ce,cf,cg,ch,ci,cj,ck,cm,cn,co,cp,cq,cr,cs,ct,cu,cv,cw,cx,cy,cz,cA,cB,cC,cD,cE,cF,cG,cH,cI,cJ,cK,cL,cM,cN,cO,cP,cQ,cR,cS,cT,cU,cV,cW,cX,cY,cZ,da,db,dc,dd,de,df,dg,dh,di,dj,dk,dl,dm,dn,dp,dq,dr,ds,dt,du,dv,dw,dx,dy,dz,dA,dB,dC,dD,dE,dF,dG,dH,dI,dJ,dK,dL,dM,dN,dO,dP,dQ,dR,dS,dT,dU,dV,dW,dX,dY,dZ,fd,fe,ff,fg,fh,fi,fj,fk,fl,fm,fn,fp,fq,fr,fs,ft,fu,fv,fw,fx,fy,fz,fA,fB,fC,fD,fE,fF,fG],defers:=[] } V) :
  elem61n2.wp Tryz.prog Q { tmps:=#[e0,.pointer (some ⟨B,0,none⟩),e2,.pointer (some ⟨N,0,none⟩),e4,e5,e6,e7,e8,e9,ea,eb,ec,ed,ee,ef,eg,eh,ei,ej,ek,el,em,en,eo,ep,eq,er,es,et,eu,ev,ew,ex,ey,ez,eA,eB,eC,eD,eE,eF,eG,eH,eI,eJ,eK,eL,eM,eN,eO,eP,eQ,eR,eS,eT,eU,eV,eW,eX,eY,eZ,aa,ab,ac,ae,af,ag,ah,ai,aj,ak,al,am,an,ao,ap,aq,ar,au,av,aw,ax,ay,az,aA,aB,aC,aD,aE,aF,aG,aH,aI,aJ,aK,aL,aM,aN,aO,aP,aQ,aR,aS,aT,aU,aV,aW,aX,aY,aZ,ba,bb,bc,bd,be,bf,bg,bh,bi,bj,bk,bl,bm,bn,bo,bp,bq,br,bs,bt,bu,bv,bw,bx,bz,bA,bB,bC,bD,bE,bF,bG,bH,bI,bJ,bK,bL,bM,bN,bO],defers:=[] } W:=by
 generalize hm:s.phrases.length=n at *;have y9:W.cell? ⟨B,10,none⟩=some (.slice s.fa s.phrases.length s.fc):=Aa (Ah hW.below hs.box) 10 rfl;rw [hm] at y9;have HS:=qh hs;have HW:=qh hW;have HK:=qh hK;have HM:=qh hm;clear hs hW hK hm
 conv=>arg 2;whnf
 go_wp2_with fail;go_loopw [27] (λiv wr=>∃(i:Nat) (ms:List Nat),iv=int i64 i∧i≤n∧Hid (ms.length=i)∧Hid (NextW w wr N G n (s.nexts f) ms)) (λiv _=>n+1-(intOf iv).toNat)
 case atStart=>exact ⟨0,[],rfl,Nat.zero_le _,qh rfl,HW⟩
 case round =>
  obtain ⟨i,ms,rfl,hv,hL,hA⟩:=hrel;by_cases hM:i<n
  ·have hi:(i:Int)<(n:Int):=by omega
   obtain ⟨p,hp⟩:∃p,s.phrases[i]?=some p:=⟨_,qg (by rw [HM.out];exact hM)⟩;have hS:=HS.out.below hA.out.below;obtain ⟨c0,c1⟩:=Cs hS.at_.phrases hp;have hh:=hS.at_.pform.resolve_left (λe=>by rw [e] at hp;cases hp);obtain ⟨hN,hO,hj⟩:=Di hS.at_.phrases hp;have hk:NumAt f wr (p.its.refsL (blk p.ia) (off p.ia)):=λx hx=>hS.nums x (CE hp hx)
   unfold Ph.val at c1
   -- the worlds up to the call
   obtain ⟨W1,hP,gW1,bW1,sW1⟩:=Af wr #[int i64 i] 3;obtain ⟨W2,hQ,gW2,bW2,sW2⟩:=Af W1 #[sv p.name,.slice p.ia p.its.len p.ic] 58;obtain ⟨W3,hD⟩:∃W3,W2.alloc (.map #[] 0)=W3:=⟨_,rfl⟩;have hE:=Ag bW1 bW2;obtain ⟨W4,hF⟩:∃W4,W3.setCell ⟨G,i,none⟩ (.map (some W2.heap.size))=W4:=⟨_,rfl⟩;have hl:=hL.out;have hC:=hA.out.lay (W4:=W4) hE hD (by rw [hl];exact hF) (by omega);have hB:=λV ks=>hA.out.step (V:=V) (ks:=ks) hE (by omega) hC
   obtain ⟨q1,q2,q3,q4,q5,q6⟩:=id hC;have hG:(s.nexts f)[ms.length]?=some ((p.its.strip.uses f).foldl AY []):=by unfold Ls.nexts;rw [hl,List.getElem?_map,hp];rfl
   -- facts of the worlds
   have z2N:W2.cell? ⟨N,0,none⟩=some (.slice (some ⟨G,0,none⟩) n n):=Aa (Ah hE hA.out.box) 0 rfl;have z2I:W2.cell? ⟨wr.heap.size,0,none⟩=some (int i64 i):=Aa (Ah bW2 gW1) 0 rfl;have b3:Below W2.heap.size W2 W3:=by rw [← hD];exact (Below.refl _ _).alloc (qn _) _
   have z3G:W3.frozen? ⟨G,i,none⟩=false:=(show FreeB W3 G from ⟨_,_,Ah b3 (Ah hE hA.out.row)⟩).free i
   have z3c:W3.cell? ⟨G,i,none⟩=some (.map none):=by
    have:=Aa (Ah b3 (Ah hE hA.out.row)) i (DG ms hM)
    rwa [List.getElem?_eq_none (by rw [hl];exact qn _)] at this
   have hR:wr.heap.size≠G:=by have:=(qs.1 hA.out.row).1;omega
   have hT:W1.heap.size≠G:=by have:=(qs.1 hA.out.row).1;omega
   have gI4:W4.heap[wr.heap.size]?=some (.cells #[int i64 i] 3 (0,0)):=(q5 _ (by omega) hR).trans (Ah bW2 gW1);have gA4:=(q5 _ (by omega) hT).trans gW2;have z4A:W4.cell? ⟨W1.heap.size,1,none⟩=some (.slice p.ia p.its.len p.ic):=Aa gA4 1 rfl;have hU:RingC W4 N wr.heap.size G i n n W2.heap.size []:=⟨q3,gI4,by rw [Aa q2 i (DG _ hM)];rw [← hl];simp,q4⟩
   have hH:∀a v,wr.cell? a=some v→a.block<w.heap.size→W4.cell? a=some v:=λa v h1 h2=>by
    have e1:W4.heap[a.block]?=wr.heap[a.block]?:=(q1.block _ h2).trans (hA.out.below.block _ h2).symm;rw [← h1];unfold World.cell?;rw [e1]
   have hI:p.its.At W4 (blk p.ia) (off p.ia):=(Di (HS.out.below q1).at_.phrases hp).2.2;have hJ:NumAt f W4 (p.its.refsL (blk p.ia) (off p.ia)):=λx hx=>(HS.out.below q1).nums x (CE hp hx)
   have C:=Qs f N wr.heap.size G i n n W2.heap.size hM (by unfold maxLen;omega) _ p.its (qn _) p.ia p.ic [] W4 hN hO hI hJ hU;have HC:=qh C;have ho:=qh hB;have hq:=qh hG;have hw:=@run_makeMap Tryz.prog;clear C hB hG hI hJ hH hU gI4 gA4 hR hT q1 q2 q3 q4 q5 q6 hC hE bW1 bW2 gW1 gW2 b3 hk hN hO hj hS;generalize hV:s.fa=fa at *;have hy:=qh hV;clear hV;generalize hr:blk fa=fb at *;generalize ht:off fa=fo at *;subst hh;clear hr ht;have sW2':W2.heap.size=wr.heap.size+2:=by omega
   have hX:=qh hP;have hY:=qh hQ;have hZ:=qh hD;have ha:=qh hF;have hu:=qh sW1;have HZ:=qh (And.intro z2N (And.intro z2I (And.intro z3G (And.intro z3c z4A))));clear sW1 sW2 hl hP hQ hD hF z2N z2I z3G z3c z4A sW2';refine Ae (λK1 hK=>?_);have hb:=qh hK;clear hK;go_wp2_with fail;refine hb.out _ _ ?_;clear hb K1;refine Ae (λK2 hK=>?_);have hc:=qh hK;clear hK;go_wp2_with fail;refine hc.out _ _ ?_;clear hc K2;refine Ae (λK3 hK=>?_);have hd:=qh hK;clear hK;refine wp_block ?_;refine Ae (λK4 hK=>?_);have he:=qh hK;clear hK;go_wp2_with fail;refine he.out _ _ ?_;clear he K4;rw [hX.out,hY.out,← hu.out];have hD:=hZ.out;have hF:=ha.out;obtain ⟨z2N,z2I,z3G,z3c,z4A⟩:=HZ.out;clear hX hY HZ hZ ha
   go_wp2_with (first
    | (go_at_call 92;refine HC.out.mono ?_;rintro e V ⟨rfl,hf,hg⟩;have HV:=qh (ho.out V _ hg hf.set_ hq.out);clear hf hg))
   refine hd.out _ _ ?_;clear hd K3 hD hF z2N z2I z3G z3c z4A;go_wp2_with fail;go_roundw
   case rel=>exact ⟨i+1,_,by go_num,by omega,qh (by have:=hL.out;simp;omega),HV⟩
   case measure=>simp [intOf];omega
  ·have:i=n:=by omega
   subst this;have hz:¬(i:Int)<(i:Int):=by omega
   go_wp2_with fail;exact HK.out ms _ _ _ _ _ _ _ _ _ _ _ _ _ _ _ _ _ _ _ _ _ _ _ _ _ _ _ _ _ _ _ _ _ _ _ _ _ _ _ _ _ _ _ _ _ _ _ _ _ _ _ _ _ _ _ _ _ _ _ _ _ _ _ _ _ _ _ _ _ _ _ _ _ _ _ _ _ _ _ _ _ _ _ _ _ _ _ _ _ _ _ _ _ _ _ _ _ _ _ _ _ _ _ _ _ _ _ _ _ _ _ _ _ _ _ _ _ _ _ _ _ _ _ _ _ _ _ _ _ _ _ _ _ _ _ _ _ _ _ _ _ _ _ _ _ _ _ wr hA.out hL.out
noncomputable def bodyB:Code:=match Ku with
  | .seq _ (.block _ (.loop (.seq _ (.seq _ (.seq (.block _ c) _)))))=>c
  | c=>c
noncomputable def My:Code:=match Ab 2 bodyB with
  | .seq (.seq _ (.block _ (.loop (.seq _ (.seq (.block _ (.seq _ (.block _ (.loop (.seq _ (.seq _ (.seq (.block _ c) _))))))) _))))) _=>c
  | c=>c
noncomputable def Vf:Code:=match My with
  | .seq a _=>a
  | c=>c
noncomputable def Vg:Code:=qe 1 My
def FarM(W:World)(F:Nat)(g:Int→Option Int):Prop:=∃kvs:List (Int×Value),MapAt kI W F kvs∧AT kvs∧∀x,Au kvs x=(g x).map (Value.int .i64)
theorem FarM.of_block{W W':World}{F:Nat}{g:Int→Option Int}(h:FarM W F g)(hb:W'.heap[F]?=W.heap[F]?):FarM W' F g:=by
  obtain ⟨kvs,h1,h2⟩:=h;exact ⟨kvs,h1.of_block hb,h2⟩
theorem FarM.lt{W:World}{F:Nat}{g:Int→Option Int}(h:FarM W F g):F<W.heap.size:=by
  obtain ⟨kvs,h1,h2⟩:=h;exact h1.lt
theorem FarM.new(W:World):FarM (W.alloc (.map #[] 0)) W.heap.size (λ_=>none):=⟨[],MapAt.new W,List.nodup_nil,λ_=>rfl⟩
theorem FarM.grown{W W':World}{F x:Nat}{g:Int→Option Int}(h:FarM W F g)(hg:W.grownBy W' (some x))(hx:x≠F):FarM W' F g:=h.of_block (hg.block F h.lt (λe=>by cases e;exact hx rfl))
theorem FarM.lookup{W:World}{F:Nat}{g:Int→Option Int}(h:FarM W F g)(x:Int):(Instr.lookup 161 (.map (some F)) (int i64 x) true).run Tryz.prog W=.ok (.tuple #[int i64 ((g x).getD 0),.bool (g x).isSome]) W:=by
  obtain ⟨kvs,h1,_,h3⟩:=h;have:=Bi (P:=Tryz.prog) Bz Tryz.underlying161 Tryz.underlying3 h1 x (z:=int i64 0) (by kernel_rfl) true;rw [h3 x] at this;refine this.trans ?_;cases g x<;>rfl
theorem FarM.lookup1{W:World}{F:Nat}{g:Int→Option Int}(h:FarM W F g)(x:Int):(Instr.lookup 161 (.map (some F)) (int i64 x) false).run Tryz.prog W=.ok (int i64 ((g x).getD 0)) W:=by
  obtain ⟨kvs,h1,_,h3⟩:=h;have:=Bi (P:=Tryz.prog) Bz Tryz.underlying161 Tryz.underlying3 h1 x (z:=int i64 0) (by kernel_rfl) false;rw [h3 x] at this;refine this.trans ?_;cases g x<;>rfl
def Gr(g:Int→Option Int)(k v:Int):Int→Option Int:=λx=>if x=k then some v else g x
theorem FarM.put{W:World}{F:Nat}{g:Int→Option Int}(h:FarM W F g)(k v:Int)(hk:g k=none) :
    ∃W',(Instr.mapUpdate 161 (.map (some F)) (int i64 k) (int i64 v)).run Tryz.prog W=.ok () W'∧FarM W' F (Gr g k v)∧W.grownBy W' (some F)∧W'.heap.size=W.heap.size:=by
  obtain ⟨kvs,h1,h2,h3⟩:=h;obtain ⟨o,hA,hM⟩:=Bj (P:=Tryz.prog) Bz Tryz.underlying161 Tryz.underlying3 h1 h2 k (int i64 v);have hn:Au kvs k=none:=by rw [h3,hk];rfl
  refine ⟨_,hA,⟨_,hM,BP h2 k _,λx=>?_⟩,El W F o,by simp⟩;unfold Gr;by_cases hx:x=k
  · subst hx
    rw [if_pos rfl,JH hn];rfl
  · rw [if_neg hx, ← h3 x]
    cases hg:Au kvs x with
    | none=>exact Gw hg (λe=>hx e.symm) _
    | some y=>exact JI hg (λe=>hx e.symm) _
def E4(i n:Int)(g:Int→Option Int)(to:Int):Bool:=(decide (n=1)&&decide (to=i))||(decide (1<n)&&decide (g to=some (n-1)))
def Dg(ks:List Int)(i n:Int)(g:Int→Option Int):Bool:=ks.any (E4 i n g)
theorem NextW.grown{w W W':World}{N G n x:Nat}{kss:List (List Int)}{ms:List Nat}(h:NextW w W N G n kss ms)(hg:W.grownBy W' (some x))(hN:x≠N)(hG:x≠G)(hm:x∉ms)(hx:w.heap.size≤x):NextW w W' N G n kss ms :=
  ⟨h.below.grown hg h.below.size (λk hk=>by cases hk;exact hx),h.lowN,h.lowG,(hg.block N (qs.1 h.box).1 (λe=>by cases e;exact hN rfl)).trans h.box,
   (hg.block G (qs.1 h.row).1 (λe=>by cases e;exact hG rfl)).trans h.row,h.len,h.low,
   λj m ks h1 h2=>(h.sets j m ks h1 h2).of_block (hg.block m (h.sets j m ks h1 h2).lt (λe=>by cases e;exact hm (List.mem_of_getElem? h1))),h.apart⟩
theorem NextW.lts{w W:World}{N G n:Nat}{kss:List (List Int)}{ms:List Nat}(h:NextW w W N G n kss ms)(hk:kss.length=n){m:Nat}(hm:m∈ms):m<W.heap.size:=by
  obtain ⟨j,hj⟩:=List.getElem?_of_mem hm;have hB:=(ql.1 hj).1;obtain ⟨ks,hA⟩:∃ks,kss[j]?=some ks:=⟨_,qg (by have:=h.len;omega)⟩;exact (h.sets j m ks hj hA).lt
structure FarW(w W:World)(N G n F:Nat)(kss:List (List Int))(ms:List Nat)(g:Int→Option Int):Prop where
  next:NextW w W N G n kss ms
  whole:ms.length=n
  klen:kss.length=n
  far:FarM W F g
  lowF:w.heap.size≤F
  offF:F∉ms
  neN:F≠N
  neG:F≠G
theorem FarW.grown{w W W':World}{N G n F x:Nat}{kss:List (List Int)}{ms:List Nat}{g:Int→Option Int}(h:FarW w W N G n F kss ms g)(hg:W.grownBy W' (some x))(hx:W.heap.size≤x∨(w.heap.size≤x∧x≠N∧x≠G∧x∉ms∧x≠F)):FarW w W' N G n F kss ms g:=by
  have hl:=h.next.below.size
  have hN:=(qs.1 h.next.box).1;have hG:=(qs.1 h.next.row).1;have hF:=h.far.lt
  have hA:w.heap.size≤x∧x≠N∧x≠G∧x∉ms∧x≠F:=by
    rcases hx with hx|hx
    · exact ⟨by omega,by omega,by omega,λhm=>by have:=h.next.lts h.klen hm;omega,by omega⟩
    · exact hx
  obtain ⟨a1,a2,a3,a4,a5⟩:=hA;exact ⟨h.next.grown hg a2 a3 a4 a1,h.whole,h.klen,h.far.grown hg a5,h.lowF,h.offF,h.neN,h.neG⟩
theorem FarW.below{w W W':World}{N G n F:Nat}{kss:List (List Int)}{ms:List Nat}{g:Int→Option Int}(h:FarW w W N G n F kss ms g)(hb:Below W.heap.size W W'):FarW w W' N G n F kss ms g :=
  ⟨h.next.keep hb,h.whole,h.klen,h.far.of_block (hb.block F h.far.lt),h.lowF,h.offF,h.neN,h.neG⟩
theorem FarW.put{w W W':World}{N G n F:Nat}{kss:List (List Int)}{ms:List Nat}{g g':Int→Option Int}(h:FarW w W N G n F kss ms g)(hg:W.grownBy W' (some F))(hf:FarM W' F g'):FarW w W' N G n F kss ms g' :=
  ⟨h.next.grown hg h.neN h.neG h.offF h.lowF,h.whole,h.klen,hf,h.lowF,h.offF,h.neN,h.neG⟩
theorem TJ(i nn:Int)(k N G n F:Nat)(kss:List (List Int))(ms:List Nat)(ks:List Int)(g:Int→Option Int)(w W:World)(hW:FarW w W N G n F kss ms g)(hk:k<n)(hY:kss[k]?=some ks)(hZ:g k=none)(hy:1≤nn∧nn≤1000)(Q:Exit→Act→World→Prop)
    (hQ:∀(bP bQ bR bS bT bU bV bW bY bZ ca cb cc cd ce cf cg ch ci cj ck cm cn co cp cq cr cs ct cu cv cw cx cy cz cA cB cC cD cE cF:Value) (V:World),FarW w V N G n F kss ms (if Dg ks i nn g=true then Gr g k nn else g)→Q .normal { tmps:=#[e0,e1,e2,.pointer (some ⟨N,0,none⟩),e4,e5,int i64 i,.map (some F),int i64 nn,int i64 k,ea,eb,bP,bQ,bR,ef,eg,eh,ei,ej,ek,el,em,en,eo,ep,eq,er,es,et,eu,ev,ew,ex,ey,ez,eA,eB,eC,eD,eE,eF,eG,eH,eI,eJ,eK,eL,eM,eN,eO,eP,eQ,eR,eS,eT,eU,eV,eW,eX,eY,eZ,aa,ab,ac,bS,bT,bU,bV,bW,bY,bZ,ca,cb,cc,cd,ce,cf,cg,ch,ci,cj,ck,cm,cn,co,cp,cq,cr,cs,ct,cu,cv,cw,cx,cy,cz,cA,cB,cC,cD,cE,cF,aS,aT,aU,aV,aW,aX,aY,aZ,ba,bb,bc,bd,be,bf,bg,bh,bi,bj,bk,bl,bm,bn,bo,bp,bq,br,bs,bt,bu,bv,bw,bx,bz,bA,bB,bC,bD,bE,bF,bG,bH,bI,bJ,bK,bL,bM,bN,bO],defers:=[] } V) :
    (Ab 2 My).wp Tryz.prog Q { tmps:=#[e0,e1,e2,.pointer (some ⟨N,0,none⟩),e4,e5,int i64 i,.map (some F),int i64 nn,int i64 k,ea,eb,ec,ed,ee,ef,eg,eh,ei,ej,ek,el,em,en,eo,ep,eq,er,es,et,eu,ev,ew,ex,ey,ez,eA,eB,eC,eD,eE,eF,eG,eH,eI,eJ,eK,eL,eM,eN,eO,eP,eQ,eR,eS,eT,eU,eV,eW,eX,eY,eZ,aa,ab,ac,ae,af,ag,ah,ai,aj,ak,al,am,an,ao,ap,aq,ar,au,av,aw,ax,ay,az,aA,aB,aC,aD,aE,aF,aG,aH,aI,aJ,aK,aL,aM,aN,aO,aP,aQ,aR,aS,aT,aU,aV,aW,aX,aY,aZ,ba,bb,bc,bd,be,bf,bg,bh,bi,bj,bk,bl,bm,bn,bo,bp,bq,br,bs,bt,bu,bv,bw,bx,bz,bA,bB,bC,bD,bE,bF,bG,bH,bI,bJ,bK,bL,bM,bN,bO],defers:=[] } W:=by
  obtain ⟨m,hm⟩:∃m,ms[k]?=some m:=⟨_,qg (by have:=hW.whole;omega)⟩;have hS:=hW.next.sets k m ks hm hY
  have y3:=Aa hW.next.box 0 rfl
  have yG:=Aa hW.next.row k (DG ms hk)
  rw [hm] at yG;obtain ⟨V0,hz,hI0,ha,h0⟩:=hS.range (P:=Tryz.prog) (T:=158) Tryz.underlying158;have h3:=hS.lt;have hb:=hW.below ha;obtain ⟨R,hR⟩:∃R,W.heap.size=R:=⟨_,rfl⟩
  have hd:w.heap.size≤R∧R≠N∧R≠G∧R∉ms∧R≠F:=by
    have hl:=hW.next.below.size
    have hN:=(qs.1 hW.next.box).1;have hG:=(qs.1 hW.next.row).1;have hF:=hW.far.lt;exact ⟨by omega,by omega,by omega,λhm=>by have:=hW.next.lts hW.klen hm;omega,by omega⟩
  rw [hR] at hz hI0;have HQ:=qh hQ;have h4:=qh hb;have h5:=qh hI0;have h6:=qh hd;have h7:=qh hZ;have he:m≠R:=by omega
  have HA:=qh he;clear hQ hW hb hI0 hd hS hm hY h3 h0 ha hZ hR he;have HB:(k:Int)<(n:Int):=by omega
  conv=>arg 2;whnf
  go_wp2_with fail;go_loopw [12,13,14] (λ_ _ _ wr=>∃left,Hid (ItB wr R m ks left)∧Hid (∀x∈ks,x∈left∨E4 i nn g x=false)∧Hid (FarW w wr N G n F kss ms g)) (λ_ _ _ wr=>wr.rangeLeft m R)
  case atStart=>exact ⟨ks,h5,qh (λx hx=>Or.inl hx),h4⟩
  case round =>
    obtain ⟨left,hI,hD,hW⟩:=hrel;rcases hI.out.next (P:=Tryz.prog) with ⟨hl,h8⟩|⟨to,V,left',hf,⟨_,h8⟩,HC,hP,hg,hh,hJ,hi,hC⟩
    · have hA:Dg ks i nn g=false:=by
        unfold Dg;rw [← Bool.not_eq_true,List.any_eq_true];rintro ⟨x,hx,hj⟩;rcases hD.out x hx with h|h
        · rw [hl] at h;cases h
        · rw [h] at hj;cases hj
      have hE:=qh hA;clear hA hl;go_wp2_with fail;refine HQ.out _ _ _ _ _ _ _ _ _ _ _ _ _ _ _ _ _ _ _ _ _ _ _ _ _ _ _ _ _ _ _ _ _ _ _ _ _ _ _ _ _ _ ?_;rw [hE.out];exact hW.out
    · have hn : wr.grownBy V (some R) := ⟨(hC 0 (Nat.zero_le _)).os, (hC 0 (Nat.zero_le _)).tape, (hC 0 (Nat.zero_le _)).output, Nat.le_of_eq hi.symm, fun c _ hc => hJ c (fun e => hc (by rw [e]))⟩
      have hM:=hW.out.grown hn (Or.inr h6.out);have ho:=hM.far.lookup to;obtain ⟨V2,hT,hp,hq,h9⟩:=hM.far.put k nn h7.out;have hK:=qh hM;have hU:=qh hP;have hV:=qh hg;have hX:Hid (V.rangeLeft m R<wr.rangeLeft m R):=qh (by rw [hP.cnt,hI.out.cnt];exact hh);have hr:Hid (to∈ks):=qh (hI.out.sub to hf);obtain ⟨HD,HE⟩:=hy;have hs:=qh hp;have ht:=qh hq;clear hM hP hg hh hJ hi hC hn hp hq h9 hf hI;by_cases h1:nn=1
      · subst h1
        by_cases hu:to=i
        · subst hu
          have hL:E4 to 1 g to=true:=by unfold E4;simp
          have hB:Dg ks to 1 g=true:=List.any_eq_true.2 ⟨to,hr.out,hL⟩;have HY:=qh hB;clear hB hL;go_wp2_with fail;refine HQ.out _ _ _ _ _ _ _ _ _ _ _ _ _ _ _ _ _ _ _ _ _ _ _ _ _ _ _ _ _ _ _ _ _ _ _ _ _ _ _ _ _ _ ?_;rw [if_pos HY.out];exact hK.out.put ht.out hs.out
        · have hA : E4 i 1 g to = false := by unfold E4; rw [decide_eq_false hu]; simp
          have hE:=qh hA;clear hA hT;go_wp2_with fail;go_roundw
          case rel =>
            refine ⟨left',hU,qh (λx hx=>?_),hK⟩;rcases hD.out x hx with h|h
            · rcases hV.out x h with rfl | h
              · exact Or.inr hE.out
              · exact Or.inl h
            · exact Or.inr h
          case measure=>exact hX.out
      · have h2 : 1 < nn := by omega
        have hw:IntKind.i64.wrap (nn-1)=nn-1:=IntWalk.i64_in _ (by omega)
        cases hH:g to with
        | none =>
          rw [hH] at ho;have hO:=qh hH;clear hH;have hA:E4 i nn g to=false:=by unfold E4;rw [hO.out,decide_eq_false h1];simp
          have hE:=qh hA;clear hA hT;go_wp2_with fail;go_roundw
          case rel =>
            refine ⟨left',hU,qh (λx hx=>?_),hK⟩;rcases hD.out x hx with h|h
            · rcases hV.out x h with rfl | h
              · exact Or.inr hE.out
              · exact Or.inl h
            · exact Or.inr h
          case measure=>exact hX.out
        | some v =>
          rw [hH] at ho;have hO:=qh hH;clear hH;by_cases hv:v=nn-1
          · subst hv
            have hL:E4 i nn g to=true:=by unfold E4;rw [hO.out,decide_eq_false h1,decide_eq_true h2];simp
            have hB:Dg ks i nn g=true:=List.any_eq_true.2 ⟨to,hr.out,hL⟩;have HY:=qh hB;clear hB hL;go_wp2_with fail;refine HQ.out _ _ _ _ _ _ _ _ _ _ _ _ _ _ _ _ _ _ _ _ _ _ _ _ _ _ _ _ _ _ _ _ _ _ _ _ _ _ _ _ _ _ ?_;rw [if_pos HY.out];exact hK.out.put ht.out hs.out
          · have hA : E4 i nn g to = false := by unfold E4; rw [hO.out, decide_eq_false h1, decide_eq_true h2]; simp only [Option.some.injEq, Bool.false_and, Bool.true_and, Bool.false_or]; exact decide_eq_false hv
            have hE:=qh hA;clear hA hT;go_wp2_with fail;go_roundw
            case rel =>
              refine ⟨left',hU,qh (λx hx=>?_),hK⟩;rcases hD.out x hx with h|h
              · rcases hV.out x h with rfl | h
                · exact Or.inr hE.out
                · exact Or.inl h
              · exact Or.inr h
            case measure=>exact hX.out
def EL(kss:List (List Int))(i nn:Int)(j:Nat)(g:Int→Option Int):Int→Option Int:=if (g j).isSome=true then g else if Dg (kss.getD j []) i nn g=true then Gr g j nn else g
def Ew(kss:List (List Int))(i nn:Int)(g:Int→Option Int):Nat→(Int→Option Int)
 | 0=>g
 | j+1=>EL kss i nn j (Ew kss i nn g j)
def AR(kss:List (List Int))(i:Int):Nat→(Int→Option Int)
 | 0=>λ_=>none
 | m+1=>Ew kss i (m+1:Nat) (AR kss i m) kss.length
noncomputable def body5:Code:=match Ab 2 bodyB with
 | .seq (.seq _ (.block _ (.loop (.seq _ (.seq (.block _ c) _))))) _=>c
 | c=>c
theorem TI(i nn:Int)(N G n F:Nat)(kss:List (List Int))(ms:List Nat)(g:Int→Option Int)(w W:World)(hW:FarW w W N G n F kss ms g)(hn:n≤1000)(hH:1≤nn∧nn≤1000)(Q:Exit→Act→World→Prop)
  (hQ:∀(x9 bP bQ bR bS bT bU bV bW bY bZ ca cb cc cd ce cf cg ch ci cj ck cm cn co cp cq cr cs ct cu cv cw cx cy cz cA cB cC cD cE cF cG cH cI cJ cK cL cM cN cO cP cQ cR cS cT cU:Value) (V:World),FarW w V N G n F kss ms (Ew kss i nn g n)→Q .normal { tmps:=#[e0,e1,e2,.pointer (some ⟨N,0,none⟩),e4,e5,int i64 i,.map (some F),int i64 nn,x9,bP,bQ,bR,bS,bT,ef,eg,eh,ei,ej,ek,el,em,en,eo,ep,eq,er,es,et,eu,ev,ew,ex,ey,ez,eA,eB,eC,eD,eE,eF,eG,eH,eI,eJ,eK,eL,eM,eN,eO,eP,eQ,bU,bV,bW,bY,bZ,ca,cb,cc,cd,ce,cf,cg,ch,ci,cj,ck,cm,cn,co,cp,cq,cr,cs,ct,cu,cv,cw,cx,cy,cz,cA,cB,cC,cD,cE,cF,cG,cH,cI,cJ,cK,cL,cM,cN,cO,cP,cQ,cR,cS,cT,cU,aT,aU,aV,aW,aX,aY,aZ,ba,bb,bc,bd,be,bf,bg,bh,bi,bj,bk,bl,bm,bn,bo,bp,bq,br,bs,bt,bu,bv,bw,bx,bz,bA,bB,bC,bD,bE,bF,bG,bH,bI,bJ,bK,bL,bM,bN,bO],defers:=[] } V) :
  body5.wp Tryz.prog Q { tmps:=#[e0,e1,e2,.pointer (some ⟨N,0,none⟩),e4,e5,int i64 i,.map (some F),int i64 nn,e9,ea,eb,ec,ed,ee,ef,eg,eh,ei,ej,ek,el,em,en,eo,ep,eq,er,es,et,eu,ev,ew,ex,ey,ez,eA,eB,eC,eD,eE,eF,eG,eH,eI,eJ,eK,eL,eM,eN,eO,eP,eQ,eR,eS,eT,eU,eV,eW,eX,eY,eZ,aa,ab,ac,ae,af,ag,ah,ai,aj,ak,al,am,an,ao,ap,aq,ar,au,av,aw,ax,ay,az,aA,aB,aC,aD,aE,aF,aG,aH,aI,aJ,aK,aL,aM,aN,aO,aP,aQ,aR,aS,aT,aU,aV,aW,aX,aY,aZ,ba,bb,bc,bd,be,bf,bg,bh,bi,bj,bk,bl,bm,bn,bo,bp,bq,br,bs,bt,bu,bv,bw,bx,bz,bA,bB,bC,bD,bE,bF,bG,bH,bI,bJ,bK,bL,bM,bN,bO],defers:=[] } W:=by
 have y3:=Aa hW.next.box 0 rfl
 have HQ:=qh hQ;have hP:=qh hW;have hR:=qh hH;clear hQ hW hH
 conv=>arg 2;whnf
 go_wp2_with fail;go_loopw [55] (λiv wr=>∃j:Nat,iv=int i64 j∧j≤n∧Hid (FarW w wr N G n F kss ms (Ew kss i nn g j))) (λiv _=>n+1-(intOf iv).toNat)
 case atStart=>exact ⟨0,rfl,Nat.zero_le _,hP⟩
 case round =>
  obtain ⟨j,rfl,hX,hW⟩:=hrel;by_cases hS:j<n
  ·have hj:(j:Int)<(n:Int):=by omega
   obtain ⟨ks,hC⟩:∃ks,kss[j]?=some ks:=⟨_,qg (by have:=hW.out.klen;omega)⟩;have hD:kss.getD j []=ks:=by rw [List.getD_eq_getElem?_getD,hC];rfl
   obtain ⟨g',hE⟩:∃g',Ew kss i nn g j=g':=⟨_,rfl⟩;have hJ:Ew kss i nn g (j+1)=EL kss i nn j g':=by rw [Ew,hE]
   have HJ:=qh hJ;rw [hE] at hW;clear hJ hE;have hF:=hW.out.far.lookup j
   cases hA:g' j with
   | some v =>
    rw [hA] at hF;have hB:EL kss i nn j g'=g':=by unfold EL;rw [hA];rfl
    have hG:=qh hB;clear hB hA hD hC;go_wp2_with fail;go_roundw
    case rel=>exact ⟨j+1,by go_num,by omega,qh (by rw [HJ.out,hG.out];exact hW.out)⟩
    case measure=>simp [intOf];omega
   | none =>
    rw [hA] at hF;have hB:EL kss i nn j g'=if Dg ks i nn g'=true then Gr g' j nn else g':=by unfold EL;rw [hA,hD];rfl
    have hG:=qh hB;have hT:=qh hC;have hU:=qh hA;clear hB hA hD hC;refine Ae (λK1 hK=>?_);have hI:=qh hK;clear hK;go_wp2_with fail;refine hI.out _ _ ?_;clear hI K1;refine Ae (λK2 hK=>?_);have hL:=qh hK;clear hK;go_wp2_with fail;refine hL.out _ _ ?_;clear hL K2;refine Ae (λK3 hK=>?_);have hM:=qh hK;clear hK;refine wp_block ?_;change Code.wp Tryz.prog (.seq Vf (.seq Vg (Ab 2 My))) _ _ _;refine Ae (λK4 hK=>?_);have hN:=qh hK;clear hK
    conv=>arg 2;whnf
    go_wp2_with fail;refine hN.out _ _ ?_;clear hN K4;refine Ae (λK5 hK=>?_);have hO:=qh hK;clear hK
    conv=>arg 2;whnf
    go_wp2_with fail;refine hO.out _ _ ?_;clear hO K5;refine TJ i nn j N G n F kss ms ks g' w wr hW.out hS hT.out hU.out hR.out _ ?_
    intros
    rename_i V hV;refine hM.out _ _ ?_;rw [← hG.out,← HJ.out] at hV;have HV:=qh hV;clear hV hM K3 hF;go_wp2_with fail;go_roundw
    case rel=>exact ⟨j+1,by go_num,by omega,HV⟩
    case measure=>simp [intOf];omega
  ·have:j=n:=by omega
   subst this;have hz:¬(j:Int)<(j:Int):=by omega
   go_wp2_with fail;exact HQ.out _ _ _ _ _ _ _ _ _ _ _ _ _ _ _ _ _ _ _ _ _ _ _ _ _ _ _ _ _ _ _ _ _ _ _ _ _ _ _ _ _ _ _ _ _ _ _ _ _ _ _ _ _ _ _ _ _ wr hW.out
noncomputable def bBn(k:Nat):Code:=match Ab k bodyB with
 | .seq a _=>a
 | c=>c
theorem QD:bodyB=.seq (bBn 0) (Ab 1 bodyB):=rfl
theorem QE:Ab 1 bodyB=.seq (bBn 1) (Ab 2 bodyB):=rfl
theorem QF:Ab 2 bodyB=.seq (bBn 2) (Ab 3 bodyB):=rfl
theorem TH(i:Int)(N G n F:Nat)(kss:List (List Int))(ms:List Nat)(w W:World)(hW:FarW w W N G n F kss ms (λ_=>none))(hn:n≤1000)(Q:Exit→Act→World→Prop)
  (hQ:∀(x8 x9 bP bQ bR bS bT bU bV bW bY bZ ca cb cc cd ce cf cg ch ci cj ck cm cn co cp cq cr cs ct cu cv cw cx cy cz cA cB cC cD cE cF cG cH cI cJ cK cL cM cN cO cP cQ cR cS cT cU cV cW cX cY cZ da:Value) (V:World),FarW w V N G n F kss ms (AR kss i n)→Q .normal { tmps:=#[e0,e1,e2,.pointer (some ⟨N,0,none⟩),e4,e5,int i64 i,.map (some F),x8,x9,bP,bQ,bR,bS,bT,ef,eg,eh,ei,ej,ek,el,em,en,eo,ep,eq,er,es,et,eu,ev,ew,ex,ey,ez,eA,eB,eC,eD,eE,eF,eG,eH,eI,eJ,eK,bU,bV,bW,bY,bZ,ca,cb,cc,cd,ce,cf,cg,ch,ci,cj,ck,cm,cn,co,cp,cq,cr,cs,ct,cu,cv,cw,cx,cy,cz,cA,cB,cC,cD,cE,cF,cG,cH,cI,cJ,cK,cL,cM,cN,cO,cP,cQ,cR,cS,cT,cU,cV,cW,cX,cY,cZ,da,aT,aU,aV,aW,aX,aY,aZ,ba,bb,bc,bd,be,bf,bg,bh,bi,bj,bk,bl,bm,bn,bo,bp,bq,br,bs,bt,bu,bv,bw,bx,bz,bA,bB,bC,bD,bE,bF,bG,bH,bI,bJ,bK,bL,bM,bN,bO],defers:=[] } V) :
  (bBn 2).wp Tryz.prog Q { tmps:=#[e0,e1,e2,.pointer (some ⟨N,0,none⟩),e4,e5,int i64 i,.map (some F),e8,e9,ea,eb,ec,ed,ee,ef,eg,eh,ei,ej,ek,el,em,en,eo,ep,eq,er,es,et,eu,ev,ew,ex,ey,ez,eA,eB,eC,eD,eE,eF,eG,eH,eI,eJ,eK,eL,eM,eN,eO,eP,eQ,eR,eS,eT,eU,eV,eW,eX,eY,eZ,aa,ab,ac,ae,af,ag,ah,ai,aj,ak,al,am,an,ao,ap,aq,ar,au,av,aw,ax,ay,az,aA,aB,aC,aD,aE,aF,aG,aH,aI,aJ,aK,aL,aM,aN,aO,aP,aQ,aR,aS,aT,aU,aV,aW,aX,aY,aZ,ba,bb,bc,bd,be,bf,bg,bh,bi,bj,bk,bl,bm,bn,bo,bp,bq,br,bs,bt,bu,bv,bw,bx,bz,bA,bB,bC,bD,bE,bF,bG,bH,bI,bJ,bK,bL,bM,bN,bO],defers:=[] } W:=by
 have HQ:=qh hQ;have hE:=qh hW;clear hQ hW
 conv=>arg 2;whnf
 go_wp2_with fail;go_loopw [8] (λiv wr=>∃j:Nat,iv=int i64 (j+1:Nat)∧j≤n∧Hid (FarW w wr N G n F kss ms (AR kss i j))) (λiv _=>n+3-(intOf iv).toNat)
 case atStart=>exact ⟨0,rfl,Nat.zero_le _,hE⟩
 case round =>
  obtain ⟨j,rfl,hG,hW⟩:=hrel;have y3:=Aa hW.out.next.box 0 rfl
  by_cases hH:j<n
  ·have hj:((j+1:Nat):Int)≤(n:Int):=by omega
   have hJ:AR kss i (j+1)=Ew kss i (j+1:Nat) (AR kss i j) n:=by rw [AR,hW.out.klen]
   have HJ:=qh hJ;clear hJ;obtain ⟨nn,hA⟩:∃nn:Int,((j+1:Nat):Int)=nn:=⟨_,rfl⟩;have hB:=qh hA;have h1:1≤nn:=by omega
   have h2:nn≤1000:=by omega
   rw [hA] at hj;rw [hA];clear hA;refine Ae (λK1 hK=>?_);have hC:=qh hK;clear hK;go_wp2_with fail;refine hC.out _ _ ?_;clear hC K1;refine Ae (λK3 hK=>?_);have hD:=qh hK;clear hK;refine wp_block ?_;change Code.wp Tryz.prog body5 _ _ _;refine TI i nn N G n F kss ms (AR kss i j) w wr hW.out hn ⟨h1,h2⟩ _ ?_
   intros
   rename_i V hV;refine hD.out _ _ ?_;rw [← hB.out,← HJ.out] at hV;have HV:=qh hV;clear hV hD K3;have hF:=hB.out;subst hF;go_wp2_with fail;go_roundw
   case rel=>exact ⟨j+1,by go_num,by omega,HV⟩
   case measure=>simp [intOf];omega
  ·have:j=n:=by omega
   subst this;have hz:¬((j+1:Nat):Int)≤(j:Int):=by omega
   go_wp2_with fail;exact HQ.out _ _ _ _ _ _ _ _ _ _ _ _ _ _ _ _ _ _ _ _ _ _ _ _ _ _ _ _ _ _ _ _ _ _ _ _ _ _ _ _ _ _ _ _ _ _ _ _ _ _ _ _ _ _ _ _ _ _ _ _ _ _ _ _ wr hW.out
def onB(kss:List (List Int))(g:Int→Option Int)(at_ left:Int)(k:Nat):Bool:=decide ((k:Int)∈kss.getD at_.toNat [])&&decide ((g k).getD 0=left)
def DF(kss:List (List Int))(g:Int→Option Int)(at_ left:Int)(n:Nat):Option Nat:=(List.range n).find? (onB kss g at_ left)
def E3(kss:List (List Int))(g:Int→Option Int)(n:Nat):Nat→Int→List Int
 | 0,_=>[]
 | left+1,at_=>match DF kss g at_ (left+1:Nat) n with
  | some k=>(k:Int)::E3 kss g n left k
  | none=>E3 kss g n left at_
theorem NQ{kss:List (List Int)}{g:Int→Option Int}{at_ left:Int}{n:Nat}(h:∀k,k<n→onB kss g at_ left k=false):DF kss g at_ left n=none:=by
 unfold DF;rw [List.find?_eq_none];intro k hk;rw [h k (by simpa using hk)];simp
theorem NU{kss:List (List Int)}{g:Int→Option Int}{at_ left:Int}{n k:Nat}(hk:k<n)(h:∀j,j<k→onB kss g at_ left j=false)(hy:onB kss g at_ left k=true):DF kss g at_ left n=some k:=by
 unfold DF;rw [List.find?_range_eq_some];exact ⟨hy,by simpa using hk,λj hj=>by simpa using h j hj⟩
theorem SetB.lookup{w:World}{b:Nat}{ks:List Int}(h:SetB w b ks)(x:Int):(Instr.lookup 158 (.map (some b)) (int i64 x) false).run Tryz.prog w=.ok (.bool (decide (x∈ks))) w:=by
 have:=Bi (P:=Tryz.prog) Bz Tryz.underlying158 Tryz.underlying3 h.map_ x (z:=.bool false) (by kernel_rfl) false;rw [Mj] at this;refine this.trans ?_;by_cases hx:x∈ks
 ·simp [hx]
 ·simp [hx]
theorem Ti:(Tryz.prog.info? 3).map (λi=>(i.zero,i.size,i.bytes))=some (some (int i64 0),1,8):=by kernel_rfl
def IX(l:List Int):List Value:=l.map (Value.int .i64)
theorem Rx{w:World}{base e s n g:Nat}{v:Value}{xs:List Value}(h:w.ownsRow base e s v n xs)(hg:v.ownBlock=some g):base≤g:=by
 rcases h.2 with ⟨rfl,_⟩|⟨g',cap,cur,rfl,h1,_⟩
 ·cases hg
 ·cases hg;exact h1
theorem TU{A B C:World}{n:Nat}(h:Below n A B)(k:Below n B C):Below n A C:=h.trans k
structure WayW(w S W:World)(N G n F:Nat)(kss:List (List Int))(ms:List Nat)(g:Int→Option Int)(v:Value)(l:List Int):Prop where
 far:FarW w S N G n F kss ms g
 below:Below S.heap.size S W
 own:W.ownsRow S.heap.size 3 1 v l.length (IX l)
 range:∀x∈l,0≤x∧x<n
theorem IA(w:World)(v:Value)(t:TypeId):∀j u,[v][j]?=some u→(w.alloc (.cells #[v] t)).cell? ((⟨w.heap.size,0,none⟩:Addr).add j)=some u:=by
 intro j u hj
 cases j with
 | zero=>simp at hj;subst hj;simp [Addr.add]
 | succ j=>simp at hj
noncomputable def Lw:Code:=match bBn 6 with
 | .seq _ (.block _ (.loop (.seq _ (.seq (.block _ c) _))))=>c
 | c=>c
noncomputable def Ud:Code:=match Lw with
 | .seq a _=>a
 | c=>c
theorem UP(i left at_:Int)(N G n F:Nat)(kss:List (List Int))(ms:List Nat)(g:Int→Option Int)(v:Value)(l:List Int)(w S W:World)(hW:WayW w S W N G n F kss ms g v l)(hn:n≤1000)(hl:l.length≤1000)(ha:0≤at_∧at_<n)(Q:Exit→Act→World→Prop)
  (hQ:∀(v':Value) (bM bN bO bP bQ bR bS bT bU bV bW bY bZ ca cb cc cd ce cf cg ch ci cj ck:Value) (V:World),WayW w S V N G n F kss ms g v' (l++((DF kss g at_ left n).toList.map λk:Nat=>(k:Int)))→Q .normal { tmps:=#[e0,e1,e2,.pointer (some ⟨N,0,none⟩),e4,e5,int i64 i,.map (some F),e8,e9,ea,eb,ec,ed,ee,int i64 left,ef,v',int i64 at_,bM,eh,ei,ej,ek,el,em,en,eo,ep,eq,er,es,et,eu,ev,ew,ex,ey,ez,eA,eB,eC,eD,eE,eF,eG,eH,eI,eJ,eK,eL,eM,eN,eO,eP,eQ,eR,eS,eT,eU,eV,eW,eX,eY,eZ,aa,ab,ac,ae,af,ag,ah,ai,aj,ak,al,am,an,ao,ap,aq,ar,au,av,aw,ax,ay,az,aA,aB,aC,aD,aE,aF,aG,aH,aI,aJ,aK,aL,aM,aN,aO,aP,aQ,aR,aS,aT,aU,aV,aW,aX,aY,aZ,ba,bb,bc,bd,be,bf,bg,bh,bi,bj,bk,bl,bN,bO,bP,bQ,bR,bS,bT,bU,bV,bW,bY,bZ,ca,cb,cc,cd,ce,cf,cg,ch,ci,cj,ck,bK,bL],defers:=[] } V) :
  (Ab 1 Lw).wp Tryz.prog Q { tmps:=#[e0,e1,e2,.pointer (some ⟨N,0,none⟩),e4,e5,int i64 i,.map (some F),e8,e9,ea,eb,ec,ed,ee,int i64 left,ef,v,int i64 at_,eg,eh,ei,ej,ek,el,em,en,eo,ep,eq,er,es,et,eu,ev,ew,ex,ey,ez,eA,eB,eC,eD,eE,eF,eG,eH,eI,eJ,eK,eL,eM,eN,eO,eP,eQ,eR,eS,eT,eU,eV,eW,eX,eY,eZ,aa,ab,ac,ae,af,ag,ah,ai,aj,ak,al,am,an,ao,ap,aq,ar,au,av,aw,ax,ay,az,aA,aB,aC,aD,aE,aF,aG,aH,aI,aJ,aK,aL,aM,aN,aO,aP,aQ,aR,aS,aT,aU,aV,aW,aX,aY,aZ,ba,bb,bc,bd,be,bf,bg,bh,bi,bj,bk,bl,bm,bn,bo,bp,bq,br,bs,bt,bu,bv,bw,bx,bz,bA,bB,bC,bD,bE,bF,bG,bH,bI,bJ,bK,bL],defers:=[] } W:=by
 obtain ⟨a,rfl⟩:∃a:Nat,at_=a:=⟨at_.toNat,by omega⟩;have hN:a<n:=by omega
 have hF:=hW.far.below hW.below;obtain ⟨m,hm⟩:∃m,ms[a]?=some m:=⟨_,qg (by have:=hF.whole;omega)⟩;obtain ⟨ks,hG⟩:∃ks,kss[a]?=some ks:=⟨_,qg (by have:=hF.klen;omega)⟩;have hI:kss.getD (a:Int).toNat []=ks:=by rw [Int.toNat_natCast,List.getD_eq_getElem?_getD,hG];rfl
 have y3:=Aa hF.next.box 0 rfl
 have yG:=Aa hF.next.row a (DG ms hN)
 rw [hm] at yG;have hJ:=hF.next.sets a m ks hm hG
 have hK:=hF.far;have HQ:=qh hQ;have HW:=qh hW;have hO:=qh hJ.lookup;have hP:=qh hK.lookup1;have hL:=qh hI;clear hQ hW hF hm hG hI hJ hK ha;have hZ:(a:Int)<(n:Int):=by omega
 conv=>arg 2;whnf
 go_wp2_with fail;go_loopw [17,128] (λlv iv wr=>∃k:Nat,iv=int i64 k∧lv=v∧k≤n∧wr=W∧Hid (∀j,j<k→onB kss g a left j=false)) (λ_ iv _=>n+1-(intOf iv).toNat)
 case atStart=>exact ⟨0,rfl,rfl,Nat.zero_le _,rfl,qh (λj hj=>by omega)⟩
 case round =>
  obtain ⟨k,rfl,rfl,hc,rfl,hE⟩:=hrel;by_cases hR:k<n
  ·have hk:(k:Int)<(n:Int):=by omega
   have hM:=hO.out k;have hS:=hP.out k;by_cases hA:(k:Int)∈ks
   ·rw [decide_eq_true hA] at hM
    by_cases hv:(g k).getD 0=left
    ·rw [hv] at hS
     have hy:onB kss g a left k=true:=by unfold onB;rw [hL.out,decide_eq_true hA,decide_eq_true hv];rfl
     have hB:=NU hR hE.out hy;have hH:=qh hB;obtain ⟨i3,hT,hU,hV,hX⟩:=info_parts Ti;have HO:=qh (HW.out.own.alloc (.cells #[int i64 (k:Int)] 3));have hY:=HW.out.below.size;clear hy hB hA hv
     go_wp2_with (at_builtin;go_loud (refine wpList_append_own _ rfl _ _ 116 rfl S.heap.size 3 i3 (int i64 0) 1 8 Tryz.underlying116 hT hU hV hX rfl (by decide) _ l.length (IX l) rfl HO.out ⟨wr.heap.size,0,none⟩ 1 1 [int i64 (k:Int)] rfl rfl (IA _ _ _) (by intro u hu;simp at hu;subst hu;rfl) (by simp only [maxLen];omega) (by omega) (by simp;omega) ?_;intro v' w4 hC hD _));refine HQ.out v' _ _ _ _ _ _ _ _ _ _ _ _ _ _ _ _ _ _ _ _ _ _ _ _ w4 ?_;rw [hH.out];refine ⟨HW.out.far,TU HW.out.below (((Below.refl S.heap.size wr).alloc hY _).grown hD (by simp;omega) (λb hb=>Rx HW.out.own hb)),?_,λx hx=>?_⟩
     ·unfold IX at hC ⊢
      simpa using hC
     ·rcases List.mem_append.1 hx with hx|hx
      ·exact HW.out.range x hx
      ·simp at hx;subst hx;omega
    ·have hy:onB kss g a left k=false:=by unfold onB;rw [decide_eq_false hv,Bool.and_false]
     have HY:=qh hy;clear hy hA;go_wp2_with fail;go_roundw
     case rel=>exact ⟨k+1,by go_num,by trivial,by omega,by trivial,qh (λj hj=>by rcases Nat.lt_or_ge j k with h|h;exact hE.out j h;rw [show j=k by omega];exact HY.out)⟩
     case measure=>simp [intOf];omega
   ·rw [decide_eq_false hA] at hM
    have hy:onB kss g a left k=false:=by unfold onB;rw [hL.out,decide_eq_false hA,Bool.false_and]
    have HY:=qh hy;clear hy hA;go_wp2_with fail;go_roundw
    case rel=>exact ⟨k+1,by go_num,by trivial,by omega,by trivial,qh (λj hj=>by rcases Nat.lt_or_ge j k with h|h;exact hE.out j h;rw [show j=k by omega];exact HY.out)⟩
    case measure=>simp [intOf];omega
  ·have:k=n:=by omega
   subst this;have hz:¬(k:Int)<(k:Int):=by omega
   have hB:DF kss g a left k=none:=NQ hE.out;have hH:=qh hB;clear hB;go_wp2_with fail;refine HQ.out _ _ _ _ _ _ _ _ _ _ _ _ _ _ _ _ _ _ _ _ _ _ _ _ _ wr ?_;rw [hH.out];simpa using HW.out
theorem KO{w:World}{B n:Nat}{v:Value}{xs:List Value}(h:w.ownsRow B 3 1 v n xs)(hn:n≠0):∃g cap,v=.slice (some ⟨g,0,none⟩) n cap∧∀(j:Nat) (u:Value),xs[j]?=some u→w.cell? ⟨g,j,none⟩=some u:=by
 have hc:=h;rcases h.2 with ⟨rfl,h0⟩|⟨g,cap,cur,rfl,_⟩
 ·exact absurd h0 hn
 ·refine ⟨g,cap,rfl,λj u hj=>?_⟩
  have:=hc.cells (g:=g) rfl j u hj;rw [Bc,Nat.zero_add] at this;exact this
theorem Qu(kss:List (List Int))(g:Int→Option Int)(n left:Nat)(l:List Int)(x:Int)(hx:l.getLast?=some x)(tot:List Int)(h:l++E3 kss g n (left+1) x=tot) :
  ∃y,(l++((DF kss g x (left+1:Nat) n).toList.map λk:Nat=>(k:Int))).getLast?=some y∧(l++((DF kss g x (left+1:Nat) n).toList.map λk:Nat=>(k:Int)))++E3 kss g n left y=tot:=by
 unfold E3 at h
 cases hp:DF kss g x (left+1:Nat) n with
 | none =>
  rw [hp] at h;exact ⟨x,by simpa using hx,by simpa using h⟩
 | some k =>
  rw [hp] at h;exact ⟨k,by simp,by simpa using h⟩
theorem TK(i:Int)(d N G n F:Nat)(kss:List (List Int))(ms:List Nat)(g:Int→Option Int)(v:Value)(w S W:World)(hW:WayW w S W N G n F kss ms g v [i])(hn:n≤1000)(hd:d≤998)(Q:Exit→Act→World→Prop)
  (hQ:∀(v':Value) (bN bO bP bQ bR bS bT bU bV bW bY bZ ca cb cc cd ce cf cg ch ci cj ck cm cn co cp cq cr cs ct cu cv cw cx cy cz cA:Value) (V:World),WayW w S V N G n F kss ms g v' (i::E3 kss g n d i)→Q .normal { tmps:=#[e0,e1,e2,.pointer (some ⟨N,0,none⟩),e4,e5,int i64 i,.map (some F),e8,e9,ea,eb,ec,ed,ee,bN,ef,v',bO,bP,ei,ej,ek,el,em,en,eo,ep,eq,er,es,et,eu,ev,ew,ex,ey,ez,eA,eB,eC,eD,eE,eF,eG,eH,eI,eJ,eK,eL,eM,eN,eO,eP,eQ,eR,eS,eT,eU,eV,eW,eX,eY,eZ,aa,ab,ac,ae,af,ag,ah,ai,aj,ak,al,am,an,ao,ap,aq,ar,au,av,aw,ax,ay,az,aA,aB,aC,aD,aE,aF,aG,aH,aI,aJ,aK,aL,aM,aN,aO,aP,aQ,aR,aS,aT,aU,aV,aW,aX,aY,aZ,ba,bQ,bR,bS,bT,bU,bV,bW,bY,bZ,ca,cb,cc,cd,ce,cf,cg,ch,ci,cj,ck,cm,cn,co,cp,cq,cr,cs,ct,cu,cv,cw,cx,cy,cz,cA,bL,bM],defers:=[] } V) :
  (bBn 6).wp Tryz.prog Q { tmps:=#[e0,e1,e2,.pointer (some ⟨N,0,none⟩),e4,e5,int i64 i,.map (some F),e8,e9,ea,eb,ec,ed,ee,int i64 (d+1:Nat),ef,v,eg,eh,ei,ej,ek,el,em,en,eo,ep,eq,er,es,et,eu,ev,ew,ex,ey,ez,eA,eB,eC,eD,eE,eF,eG,eH,eI,eJ,eK,eL,eM,eN,eO,eP,eQ,eR,eS,eT,eU,eV,eW,eX,eY,eZ,aa,ab,ac,ae,af,ag,ah,ai,aj,ak,al,am,an,ao,ap,aq,ar,au,av,aw,ax,ay,az,aA,aB,aC,aD,aE,aF,aG,aH,aI,aJ,aK,aL,aM,aN,aO,aP,aQ,aR,aS,aT,aU,aV,aW,aX,aY,aZ,ba,bb,bc,bd,be,bf,bg,bh,bi,bj,bk,bl,bm,bn,bo,bp,bq,br,bs,bt,bu,bv,bw,bx,bz,bA,bB,bC,bD,bE,bF,bG,bH,bI,bJ,bK,bL,bM],defers:=[] } W:=by
 have HQ:=qh hQ;have HW:=qh hW;obtain ⟨tot,hB⟩:∃tot,i::E3 kss g n d i=tot:=⟨_,rfl⟩;have HT:=qh hB;clear hQ hW hB
 conv=>arg 2;whnf
 go_wp2_with fail;go_loopw [15,17] (λdv lv wr=>∃(left:Nat) (l:List Int) (x:Int),dv=int i64 left∧left≤998∧Hid (l.length+left≤d+1)∧Hid (l.getLast?=some x)∧Hid (l++E3 kss g n left x=tot)∧Hid (WayW w S wr N G n F kss ms g lv l)) (λdv _ _=>(intOf dv).toNat)
 case atStart=>exact ⟨d,[i],i,by go_num,hd,qh (by simp;omega),qh rfl,qh HT.out,HW⟩
 case round =>
  obtain ⟨left,l,x,rfl,hX,hC,hx,hD,hW⟩:=hrel
  cases left with
  | zero =>
   have hz:¬((0:Nat):Int) > 0:=by omega
   go_wp2_with fail;refine HQ.out _ _ _ _ _ _ _ _ _ _ _ _ _ _ _ _ _ _ _ _ _ _ _ _ _ _ _ _ _ _ _ _ _ _ _ _ _ _ _ _ ?_;have:=hD.out;rw [E3,List.append_nil] at this;rw [HT.out,← this];exact hW.out
  | succ left =>
   have hp:(0:Int)<((left+1:Nat):Int):=by omega
   obtain ⟨y,hE,hF⟩:=Qu kss g n left l x hx.out tot hD.out;have hG:l≠[]:=λe=>by rw [e] at hx;have:=hx.out;cases this
   have hY:0<l.length:=List.length_pos_iff.2 hG;have hH:x∈l:=List.mem_of_getLast? hx.out;have hI:=hW.out.range x hH;obtain ⟨gb,cap,hv,hA⟩:=KO hW.out.own (by omega);have hJ:l[l.length-1]?=some x:=by rw [← List.getLast?_eq_getElem?];exact hx.out
   have yl:wr.cell? ⟨gb,l.length-1,none⟩=some (int i64 x):=hA _ _ (by unfold IX;rw [List.getElem?_map,hJ];rfl);have hO:l.length≤1000:=by have:=hC.out;omega
   have hP:IntKind.i64.wrap ((l.length:Int)-1)=((l.length-1:Nat):Int):=by rw [IntWalk.i64_in _ (by omega)];omega
   have hR:=qh hE;have hS:=qh hF;have hT:=qh hI;clear hE hF hG hH hI hA hJ;subst hv;refine Ae (λK1 hK=>?_);have hL:=qh hK;clear hK;go_wp2_with fail;refine hL.out _ _ ?_;clear hL K1;refine Ae (λK3 hK=>?_);have hM:=qh hK;clear hK;refine wp_block ?_;change Code.wp Tryz.prog (.seq Ud (Ab 1 Lw)) _ _ _;refine Ae (λK4 hK=>?_);have hN:=qh hK;clear hK
   conv=>arg 2;whnf
   go_wp2_with fail;refine hN.out _ _ ?_;clear hN K4;refine UP i (left+1:Nat) x N G n F kss ms g _ l w S wr hW.out hn hO hT.out _ ?_
   intros
   rename_i V hV;refine hM.out _ _ ?_;have HV:=qh hV
   have hU:Hid ((l++((DF kss g x (left+1:Nat) n).toList.map λk:Nat=>(k:Int))).length+left≤d+1):=qh (by
    have h1:=hC.out;have h2:(DF kss g x (left+1:Nat) n).toList.length≤1:=by cases DF kss g x (left+1:Nat) n<;>simp
    rw [List.length_append,List.length_map];omega)
   clear hV hM K3 yl;go_wp2_with fail;go_roundw
   case rel=>exact ⟨left,_,_,by go_num,by omega,hU,hR,hS,HV⟩
   case measure=>simp [intOf]
end
end Go.Proofs.YtbkemlgfdklpfaaGreatDoor
