/- Contracts and plain laws on the way to the statement: part 32. -/
import Derived.Test.YtpnbpepkoekkoaaGreatZ29
import Derived.BigQuiet
import Derived.Deep.QuietTactic
import Derived.Deep.RegionHeld3
import Derived.Deep.RegionWith
import Derived.KernelRfl
import Derived.StillTailTactics
import Derived.IntWalk
import Derived.Test.YtpnbpepkoekkoaaGreatZ3
set_option autoImplicit true
set_option relaxedAutoImplicit true
set_option linter.unusedVariables false
set_option linter.unusedSimpArgs false
set_option maxRecDepth 100000
set_option maxHeartbeats 16000000
namespace Go.Proofs.YtpnbpepkoekkoaaGreat
open Go.Value (int)
open Go.IntKind (i64)
section
open Go Go.RowKit
open Go.RowKit
theorem PZ{n d:Int}(h:d<1∨1073741824<d):BL n d=false:=by
 unfold BL;rw [BH.2 (by omega)];rfl
theorem Tv{n d:Int}(h:n < -1073741824∨1073741824<n):BL n d=false:=by
 unfold BL;rw [BH.2 (show n < -1073741824∨_ by omega),Bool.and_false];rfl
theorem RD{n d:Int}(h1:1≤d)(h2:d≤1073741824)(h3:-1073741824≤n)(h4:n≤1073741824):BL n d=decide (Nat.gcd n.natAbs d.natAbs=1):=by
 unfold BL;rw [AR.2 ⟨h1,h2⟩,AR.2 ⟨h3,h4⟩];rfl
theorem Cf{P:Program}(S:World→Prop){id:Nat}{Q:Exit→Act→World→Prop}{a:Act}{w:World}{l:List Oper}(n:Nat)(hm:P.follows .mixedOrders=true)(hB:Region.lexTailB .any l.toArray n=true)(hS:S w.drew)
  (h:∀w2,S w2→wpStill P l.toArray w2 (λa'=>wpList P l.toArray Q (l.drop n) a' w2) (l.take n) a):(Code.region id l.toArray true).wp P Q a w :=
 wp_region_still_tail n hm hB (h _ hS)
def J2(b:Bool)(c:Int):Int:=if b then 0 else c
theorem Q5(n d:Int)(hA:d<1∨1073741824<d∨n < -1073741824∨1073741824<n)(w:World) :
  Calls Tryz.prog 94 #[.agg #[int i64 n,int i64 d]] w λe w'=>e=.returned (int i64 120)∧Below w.heap.size w w':=by
 by_cases h1:d<1
 ·clear hA
  go_enter Tryz.func94,Tryz.ntmps94;go_wp2_with fail;go_quiet (fail);go_wp2;go_ret;exact ⟨rfl,Ao ((Below.refl _ _).alloc (qn _) _) _⟩
 have f1:decide (d<1)=false:=by simpa using h1
 by_cases h2:1073741824<d
 ·clear hA h1
  go_enter Tryz.func94,Tryz.ntmps94;go_wp2_with fail;go_quiet (fail);go_wp2;go_ret;exact ⟨rfl,Ao ((Below.refl _ _).alloc (qn _) _) _⟩
 have f2:decide (1073741824<d)=false:=by simpa using h2
 by_cases h3:n < -1073741824
 ·clear hA h1 h2
  go_enter Tryz.func94,Tryz.ntmps94;go_wp2_with fail;go_quiet (fail);go_wp2;go_ret;exact ⟨rfl,Ao ((Below.refl _ _).alloc (qn _) _) _⟩
 have f3:decide (n < -1073741824)=false:=by simpa using h3
 have h4:1073741824<n:=by omega
 clear hA h1 h2 h3;go_enter Tryz.func94,Tryz.ntmps94;go_wp2_with fail;go_quiet (fail);go_wp2;go_ret;exact ⟨rfl,Ao ((Below.refl _ _).alloc (qn _) _) _⟩
theorem Nv(n d:Int)(h1:1≤d)(h2:d≤1073741824)(h3:-1073741824≤n)(h4:n≤1073741824)(w:World) :
  Calls Tryz.prog 94 #[.agg #[int i64 n,int i64 d]] w λe w'=>e=.returned (int i64 (J2 (BL n d) 120))∧Below w.heap.size w w':=by
 have f1:decide (d<1)=false:=by simpa using by omega
 have f2:decide (1073741824<d)=false:=by simpa using by omega
 have f3:decide (n < -1073741824)=false:=by simpa using by omega
 have f4:decide (1073741824<n)=false:=by simpa using by omega
 have hd:((d.natAbs:Nat):Int)=d:=by omega
 have HR:=qh (RD h1 h2 h3 h4);have HD:=qh hd;clear hd;go_enter Tryz.func94,Tryz.ntmps94;go_wp2_with fail;refine Cf (λw2=>w2.cell? ⟨w.heap.size,0,none⟩=some (int i64 n)∧w2.cell? ⟨w.heap.size,1,none⟩=some (int i64 d)∧w.heap.size<w2.heap.size∧Below w.heap.size w w2) 25 (by kernel_rfl) (by kernel_rfl) ⟨by go_simp,by go_simp,by simp,((Below.refl _ _).alloc (qn _) _).drew⟩ ?_;intro w2 ⟨c0,c1,hC,hB⟩;simp only [List.take_succ_cons,List.take_zero,List.drop_succ_cons,List.drop_zero]
 repeat still_step
 still_call ((IJ n h3 h4 _).mono λ_ _ ⟨e1,e2⟩=>⟨e1,e2.symm⟩)
 repeat still_step
 refine wpStill_nil ?_;have hu:IntKind.u64.wrap d=((d.natAbs:Nat):Int):=by rw [ID];omega
 rw [hu];clear hu;go_wp2_with fail;refine (Kw n.natAbs d.natAbs (by omega) (by omega) (by omega) w2).mono ?_;rintro e w3 ⟨rfl,hb⟩;have hA:=qh (hB.trans (hb.mono hB.size));clear hb;by_cases hg:Nat.gcd n.natAbs d.natAbs=1
 ·have f5:(((Nat.gcd n.natAbs d.natAbs:Nat):Int) != 1)=false:=by simpa using by omega
  have HG:=qh hg;clear hg;go_wp2_with fail;go_ret;exact ⟨DL (by rw [HR.out,decide_eq_true HG.out];rfl),hA.out⟩
 ·have f5:(((Nat.gcd n.natAbs d.natAbs:Nat):Int) != 1)=true:=by simpa using by omega
  have HG:=qh hg;clear hg;go_wp2_with fail;go_ret;exact ⟨DL (by rw [HR.out,decide_eq_false HG.out];rfl),hA.out⟩
theorem Jo(n d:Int)(w:World) :
  Calls Tryz.prog 94 #[.agg #[int i64 n,int i64 d]] w λe w'=>e=.returned (int i64 (J2 (BL n d) 120))∧Below w.heap.size w w':=by
 by_cases h:d<1∨1073741824<d∨n < -1073741824∨1073741824<n
 ·refine (Q5 n d h w).mono λe w' ⟨he,hb⟩=>⟨?_,hb⟩
  have:BL n d=false:=by
   rcases h with h|h|h
   ·exact PZ (Or.inl h)
   ·exact PZ (Or.inr h)
   ·exact Tv h
  rw [he,this];rfl
 ·exact Nv n d (by omega) (by omega) (by omega) (by omega) w
theorem MP{n d:Int}(h:BL n d=true):1≤d∧d≤1073741824∧-1073741824≤n∧n≤1073741824:=by
 unfold BL at h;simp only [Bool.and_eq_true,AR] at h;omega
theorem PE{a b:Int}(h1:-1073741824≤a)(h2:a≤1073741824)(h3:1≤b)(h4:b≤1073741824):-1152921504606846976≤a*b∧a*b≤1152921504606846976:=by
 constructor
 ·calc (-1152921504606846976:Int)=-1073741824*1073741824:=by decide
   _≤-1073741824*b:=by omega
   _≤a*b:=Int.mul_le_mul_of_nonneg_right h1 (by omega)
 ·calc a*b≤1073741824*b:=Int.mul_le_mul_of_nonneg_right h2 (by omega)
   _≤1152921504606846976:=by omega
def KY(a b c d:Int):Value:=if BL a b&&BL c d then .tuple #[int i64 (Gv (a*d) (c*b)),int i64 0] else .tuple #[int i64 0,int i64 120]
theorem Q6(a b c d:Int)(w:World) :
  Calls Tryz.prog 73 #[.agg #[int i64 a,int i64 b],.agg #[int i64 c,int i64 d]] w λe w'=>e=.returned (KY a b c d)∧Below w.heap.size w w':=by
 have hB:Below w.heap.size w ((w.alloc (.cells #[int i64 a,int i64 b] 75)).alloc (.cells #[int i64 c,int i64 d] 75)):=((Below.refl _ w).alloc (qn _) _).alloc (by simp) _;have hz:((w.alloc (.cells #[int i64 a,int i64 b] 75)).alloc (.cells #[int i64 c,int i64 d] 75)).heap.size=w.heap.size+2:=by simp
 have g0:((w.alloc (.cells #[int i64 a,int i64 b] 75)).alloc (.cells #[int i64 c,int i64 d] 75)).heap[w.heap.size]?=some (.cells #[int i64 a,int i64 b] 75 (0,0)):=by
  rw [Below.heap_alloc _ _ _ (by simp)];exact heap_alloc_new w _
 have g1:((w.alloc (.cells #[int i64 a,int i64 b] 75)).alloc (.cells #[int i64 c,int i64 d] 75)).heap[w.heap.size+1]?=some (.cells #[int i64 c,int i64 d] 75 (0,0)):=by
  have:=heap_alloc_new (w.alloc (.cells #[int i64 a,int i64 b] 75)) (.cells #[int i64 c,int i64 d] 75);simpa using this
 go_enter Tryz.func73,Tryz.ntmps73;go_wp2_with fail;generalize (w.alloc (.cells #[int i64 a,int i64 b] 75)).alloc (.cells #[int i64 c,int i64 d] 75)=w0 at *;refine (Jo a b w0).mono ?_;rintro e w1 ⟨rfl,b1⟩;have k0:=(b1.block _ (by omega)).trans g0;have k1:=(b1.block _ (by omega)).trans g1;have hF:=b1.size;have hD:=qh (hB.trans (b1.mono (by omega)));clear b1 g0 g1 hB;have K0:=qh k0;have K1:=qh k1;have d0:=Aa k0 0 rfl;have d1:=Aa k0 1 rfl;have e0:=Aa k1 0 rfl;have e1:=Aa k1 1 rfl;clear k0 k1
 cases hA:BL a b with
 | false =>
  unfold J2;go_wp2_with fail;go_ret2;exact ⟨by unfold KY;rw [hA];rfl,hD.out⟩
 | true =>
  have HA:=qh hA;clear hA;unfold J2;go_wp2_with fail;refine (Jo c d w1).mono ?_;rintro e w2 ⟨rfl,b2⟩;have k0:=(b2.block _ (by omega)).trans K0.out;have k1:=(b2.block _ (by omega)).trans K1.out;have hE:=qh (hD.out.trans (b2.mono (by omega)));clear d0 d1 e0 e1 b2;have d0:=Aa k0 0 rfl;have d1:=Aa k0 1 rfl;have e0:=Aa k1 0 rfl;have e1:=Aa k1 1 rfl;clear k0 k1
  cases hC:BL c d with
  | false =>
   unfold J2;go_wp2_with fail;go_ret2;exact ⟨by unfold KY;rw [HA.out,hC];rfl,hE.out⟩
  | true =>
   have HC:=qh hC;clear hC;obtain ⟨q1,q2,q3,q4⟩:=MP HA.out;obtain ⟨r1,r2,r3,r4⟩:=MP HC.out;obtain ⟨m1,m2⟩:=PE q3 q4 r1 r2;obtain ⟨m3,m4⟩:=PE r3 r4 q1 q2;clear q1 q2 q3 q4 r1 r2 r3 r4;unfold J2
   go_wp2_with (go_at_call 95;refine (Ku _ _ _).mono ?_;rintro e w' ⟨rfl,rfl⟩);go_ret2;exact ⟨by unfold KY;rw [HA.out,HC.out];rfl,hE.out⟩
end
section
open Go Go.RowKit
open Go.RowKit
theorem IF{w:World}{a:Addr}{v:Value}(h:w.cell? a=some v):a.block<w.heap.size:=by
 rcases Nat.lt_or_ge a.block w.heap.size with h1|h1
 ·exact h1
 ·unfold World.cell? at h;simp [Array.getElem?_eq_none h1] at h
theorem Bg(n lo hi:Int)(w:World):Calls Tryz.prog 70 #[int i64 n,int i64 lo,int i64 hi] w λe w'=>e=.returned (.bool (inB n lo hi))∧w=w':=by
 go_enter Tryz.func70,Tryz.ntmps70;go_wp2
 all_goals
  go_ret;refine ⟨AT ?_,rfl⟩;unfold inB;rw [Bool.eq_iff_iff];simp;omega
def Ez(l:List Tmp):Prop:=l.Pairwise λa b=>a.bar<b.bar
theorem FC(l:List Tmp)(bar:Int):Co l bar≤l.length:=List.countP_le_length
theorem Oa{l:List Tmp}{bar:Int}(h:∀t∈l,bar<t.bar):Co l bar=0:=by
 unfold Co;rw [List.countP_eq_zero];intro t ht;have:=h t ht;simp;omega
theorem Dj{bar:Int}:∀{l:List Tmp} {i:Nat} {t:Tmp},Ez l→l[i]?=some t→(t.bar≤bar↔i<Co l bar)
 | [],_,_,_,h=>by simp at h
 | a::r,i,t,hs,h=>by
  have hA:=List.pairwise_cons.1 hs;by_cases ha:a.bar≤bar
  ·have e:Co (a::r) bar=Co r bar+1:=by unfold Co;rw [List.countP_cons_of_pos (by simpa using ha)]
   cases i with
   | zero=>simp at h;subst h;rw [e];constructor<;>intro _<;>omega
   | succ i =>
    rw [e,Dj hA.2 (by simpa using h)];omega
  ·have e:Co (a::r) bar=0:=by
    refine Oa λx hx=>?_
    rcases List.mem_cons.1 hx with rfl|hx
    ·omega
    ·have:=hA.1 x hx;omega
   have ht:¬t.bar≤bar:=by
    have hm:=List.mem_of_getElem? h;rcases List.mem_cons.1 hm with rfl|hm
    ·omega
    ·have:=hA.1 t hm;omega
   rw [e];constructor
   ·intro h;exact absurd h ht
   ·intro h;omega
open Go.RowKit
theorem BY(c:Int)(w:World):Calls Tryz.prog 69 #[.bool true,int i64 c] w λe w'=>e=.returned (.tuple #[])∧w=w':=by
 go_enter Tryz.func69,Tryz.ntmps69;go_wp2;go_end0;exact ⟨rfl,rfl⟩
theorem Ay(c:Int)(w:World):Calls Tryz.prog 69 #[.bool false,int i64 c] w λe w'=>e=Ai c∧w=w':=by
 go_enter Tryz.func69,Tryz.ntmps69;go_wp2;exact ⟨rfl,rfl,rfl⟩
theorem atT{w:World}{b o i:Nat}{ts:List Tmp}{t:Tmp}(h:AtRow DP 3 w b o ts)(ht:ts[i]?=some t) :
  w.cell? ⟨b,o+i*3,none⟩=some (int i64 t.bar)∧w.cell? ⟨b,o+i*3+1,none⟩=some (int i64 t.ticks)∧w.cell? ⟨b,o+i*3+2,none⟩=some (int i64 t.step) :=
 ⟨h i t ht 0 _ rfl,h i t ht 1 _ rfl,h i t ht 2 _ rfl⟩
theorem Ni(i:Nat)(bar:Int)(C D b o n c:Nat)(ts:List Tmp)(t:Tmp)(w:World)(hn:ts.length=n)(ht:ts[i]?=some t)(hc:w.cell? ⟨C,1,none⟩=some (.slice (some ⟨b,o,none⟩) n c))(hd:w.cell? ⟨D,0,none⟩=some (int i64 bar))(hr:AtRow DP 3 w b o ts) :
  Calls Tryz.prog 93 #[int i64 i,.pointer (some ⟨C,0,none⟩),.pointer (some ⟨D,0,none⟩)] w λe w'=>e=.returned (.bool (decide (bar<t.bar)))∧∃k,w'=w.drewN k:=by
 have hB:i<n:=by rw [← hn];exact (ql.1 ht).1
 have hA:(0:Int)≤i∧(i:Int)<n:=by omega
 obtain ⟨p0,_,_⟩:=atT hr ht;have HT:=qh ht;have HN:=qh hn;clear ht hn hr;go_enter Tryz.func93,Tryz.ntmps93;go_wp2_with fail;go_quiet (fail);go_wp2;go_ret;exact ⟨rfl,_,rfl⟩
theorem Me(bar:Int)(C D b o n c:Nat)(ts:List Tmp)(w:World)(hs:Ez ts)(hn:ts.length=n)(hm:n≤65536)(hc:w.cell? ⟨C,1,none⟩=some (.slice (some ⟨b,o,none⟩) n c))(hd:w.cell? ⟨D,0,none⟩=some (int i64 bar))(hr:AtRow DP 3 w b o ts) :
  Calls Tryz.prog 92 #[int i64 n,.func (.func 93) #[] #[.pointer (some ⟨C,0,none⟩),.pointer (some ⟨D,0,none⟩)]] w λe w'=>e=.returned (int i64 (Co ts bar))∧∃k,w'=w.drewN k:=by
 have hu:=FC ts bar;have HS:=qh hs;have HN:=qh hn;have HC:=qh hc;have HD:=qh hd;have HR:=qh hr;rw [hn] at hu;clear hs hn hc hd hr;go_enter Tryz.func92,Tryz.ntmps92;go_wp2_with fail;go_loopw [5,6] (λx y wr=>∃i j k:Nat,x=int i64 i∧y=int i64 j∧i≤Co ts bar∧Co ts bar≤j∧j≤n∧wr=w.drewN k) (λx y _=>(intOf y-intOf x).toNat)
 case atStart=>exact ⟨0,n,0,rfl,rfl,Nat.zero_le _,hu,qn _,rfl⟩
 case round =>
  obtain ⟨i,j,k,rfl,rfl,h1,h2,h3,rfl⟩:=hrel;by_cases hE:i<j
  ·obtain ⟨t,ht⟩:∃t,ts[(i+j) / 2]?=some t:=⟨_,qg (by rw [HN.out];omega)⟩
   have hC:(i:Int)<(j:Int):=by omega
   obtain ⟨m,hD⟩:∃m:Nat,m=(i+j) / 2:=⟨_,rfl⟩;have hB:((i:Int)+(j:Int)) / 2=(m:Int):=by omega
   have HM:=qh hB;rw [← hD] at ht;have hA:=Dj (bar:=bar) HS.out ht;have hF:i≤m:=by omega
   have hG:m<j:=by omega
   have HT:=qh ht;clear ht hB hD;go_wp2_with fail;rw [HM.out];refine (Ni m bar C D b o n c ts t (w.drewN k) HN.out HT.out HC.out HD.out HR.out).mono ?_;rintro e w' ⟨rfl,k2,rfl⟩;by_cases hb:bar<t.bar
   ·have h4:Co ts bar≤m:=by
     rcases Nat.lt_or_ge m (Co ts bar) with h|h
     ·have:=hA.2 h;omega
     ·exact h
    clear hA;go_wp2_with fail;go_roundw
    case rel=>exact ⟨i,m,k+k2,rfl,rfl,h1,h4,by omega,by simp [World.drewN]⟩
    case measure=>simp [intOf];omega
   ·have h4:m<Co ts bar:=hA.1 (by omega)
    have hH:decide (bar<t.bar)=false:=by simpa using hb
    clear hA hb;go_wp2_with fail;go_roundw
    case rel=>exact ⟨m+1,j,k+k2,by go_num,rfl,by omega,h2,h3,by simp [World.drewN]⟩
    case measure=>simp [intOf];omega
  ·have hC:¬(i:Int)<(j:Int):=by omega
   obtain rfl:i=Co ts bar:=by omega
   go_wp2_with fail;go_ret;exact ⟨rfl,_,rfl⟩
theorem Em{w:World}{o:Obj}{a:Addr}{v:Value}(h:w.cell? a=some v):(w.alloc o).drew.cell? a=some v :=
 (((Below.refl w.heap.size w).alloc (qn _) o).cell (p:=a) (IF h)).trans h
theorem Ij{w:World}{o:Obj}{b c:Nat}{ts:List Tmp}(h:AtRow DP 3 w b c ts)(hb:b<w.heap.size):AtRow DP 3 (w.alloc o).drew b c ts :=
 h.below (((Below.refl w.heap.size w).alloc (qn _) o).drew) hb
theorem MF{a b:Int}(h1:-4096≤a)(h2:a≤4096)(h3:-65536≤b)(h4:b≤65536):-268435456≤a*b∧a*b≤268435456:=by
 have hx:(a*b).natAbs≤268435456:=by
  rw [Int.natAbs_mul]
  calc a.natAbs*b.natAbs≤4096*65536:=Nat.mul_le_mul (by omega) (by omega)
   _=268435456:=by decide
 omega
def GI(ts:List Tmp)(bar:Int):Prop:=Ez ts∧0<Co ts bar∧0≤bar∧bar≤4096∧∀t∈ts,0≤t.bar∧t.bar≤4096∧-65536≤t.ticks∧t.ticks≤65536∧-65536≤t.step∧t.step≤65536
theorem JC(bars bar:Int)(b o n c:Nat)(vp vs:Value)(ts:List Tmp)(w:World)(hn:ts.length=n)(hm:n≤65536)(hr:AtRow DP 3 w b o ts)(hb:b<w.heap.size)(hw:GI ts bar) :
  Calls Tryz.prog 71 #[.agg #[int i64 bars,.slice (some ⟨b,o,none⟩) n c,vp,vs],int i64 bar] w λe w'=>e=.returned (int i64 (Bm ts bar))∧Below w.heap.size w w':=by
 obtain ⟨hs,hu,hT,hU,hB⟩:=hw;have hL:=FC ts bar;rw [hn] at hL;obtain ⟨t,ht⟩:∃t,ts[Co ts bar-1]?=some t:=⟨_,qg (by omega)⟩
 have hI:Bm ts bar=t.ticks+(bar-t.bar)*t.step:=by
  unfold Bm;rw [List.getElem!_eq_getElem?_getD,ht];rfl
 obtain ⟨q1,q2,q3,q4,q5,q6⟩:=hB t (List.mem_of_getElem? ht);have hM:=qh hI;have HT:=qh ht;have HS:=qh hs;have HN:=qh hn;have HR:=qh hr;clear hI ht hs hn hr hB;have hC:Below w.heap.size w ((w.alloc (.cells #[int i64 bars,.slice (some ⟨b,o,none⟩) n c,vp,vs] 63)).alloc (.cells #[int i64 bar] 3)):=((Below.refl _ w).alloc (qn _) _).alloc (by simp) _;have hz:((w.alloc (.cells #[int i64 bars,.slice (some ⟨b,o,none⟩) n c,vp,vs] 63)).alloc (.cells #[int i64 bar] 3)).heap.size=w.heap.size+2:=by simp
 have g0:((w.alloc (.cells #[int i64 bars,.slice (some ⟨b,o,none⟩) n c,vp,vs] 63)).alloc (.cells #[int i64 bar] 3)).heap[w.heap.size]?=some (.cells #[int i64 bars,.slice (some ⟨b,o,none⟩) n c,vp,vs] 63 (0,0)):=by
  rw [Below.heap_alloc _ _ _ (by simp)];exact heap_alloc_new w _
 have g1:((w.alloc (.cells #[int i64 bars,.slice (some ⟨b,o,none⟩) n c,vp,vs] 63)).alloc (.cells #[int i64 bar] 3)).heap[w.heap.size+1]?=some (.cells #[int i64 bar] 3 (0,0)):=by
  have:=heap_alloc_new (w.alloc (.cells #[int i64 bars,.slice (some ⟨b,o,none⟩) n c,vp,vs] 63)) (.cells #[int i64 bar] 3);simpa using this
 have hV:∀(fn:Fn) (first cap:Array Value) (w:World),(Instr.makeFunc fn first cap).run Tryz.prog w=.ok (.func fn first cap) w:=λ_ _ _ _=>rfl
 go_enter Tryz.func71,Tryz.ntmps71;go_wp2_with fail;generalize (w.alloc (.cells #[int i64 bars,.slice (some ⟨b,o,none⟩) n c,vp,vs] 63)).alloc (.cells #[int i64 bar] 3)=w0 at *;have c1:w0.cell? ⟨w.heap.size,1,none⟩=some (.slice (some ⟨b,o,none⟩) n c):=Aa g0 1 rfl;have d0:w0.cell? ⟨w.heap.size+1,0,none⟩=some (int i64 bar):=Aa g1 0 rfl;have hD:=qh (HR.out.below hC hb);obtain ⟨p0,p1,p2⟩:=atT hD.out HT.out;have hN:b<w0.heap.size:=by omega
 have hW:w.heap.size<w0.heap.size:=by omega
 have hX:w.heap.size+1<w0.heap.size:=by omega
 have hO:=qh hC;clear hz g0 g1 hC;generalize hJ:Co ts bar-1=m at *;have hE:IntKind.i64.wrap (((Co ts bar:Nat):Int)-1)=(m:Int):=by rw [IntWalk.i64_in _ (by omega)];omega
 have hF:(0:Int)≤(m:Int)∧(m:Int)<n:=by omega
 have hG:=hF.1;have hH:=hF.2;have hP:((m:Int)).toNat=m:=by omega
 have hY:=qh hJ;clear hJ hF;have hQ:∀k o,(w0.drewN k).alloc o=(w0.alloc o).drewN k:=λ_ _=>rfl
 have hR:∀k o a v,((w0.alloc o).drewN k).setCell a v=((w0.alloc o).setCell a v).drewN k:=λ_ _ _ _=>by unfold World.drewN World.setCell;simp
 go_region_held3 (λw'=>w'.cell? ⟨w.heap.size,1,none⟩=some (.slice (some ⟨b,o,none⟩) n c)∧w'.cell? ⟨w.heap.size+1,0,none⟩=some (int i64 bar)∧w'.cell? ⟨b,o+m*3,none⟩=some (int i64 t.bar)∧w'.cell? ⟨b,o+m*3+1,none⟩=some (int i64 t.ticks)∧w'.cell? ⟨b,o+m*3+2,none⟩=some (int i64 t.step)∧Below w0.heap.size w0 w') (refine ⟨?_,?_,?_,?_,?_,?_⟩<;>first|assumption|exact (Below.refl _ _).drew|exact Ao (Below.refl _ _) _|exact (Ao (Below.refl _ _) _).alloc (by simp) _|exact ((Below.refl _ _).drew).alloc (by simp) _|exact Below.drew (by assumption)|exact Ao (by assumption) _|go_keep)
  (first|(go_at_call 92;refine (Me bar (w.heap.size) (w.heap.size+1) b o n c ts _ HS.out HN.out hm ?_ ?_ ?_).mono ?_;(first|exact c1|exact Em c1);(first|exact d0|exact Em d0);(first|exact hD.out|exact Ij hD.out hN);rintro e w' ⟨rfl,k,rfl⟩))
 all_goals
  rename_i hA;have hK:=hA.2.2.2.2.2;have hS:=qh (hO.out.trans (hK.mono (by omega)));have y1:w0.cell? ⟨w.heap.size+1,0,none⟩=some (int i64 bar):=d0;clear hA hK hQ hR c1 p0 p1 p2 hE hP hG hH;obtain ⟨m1,m2⟩:=MF (a:=bar-t.bar) (b:=t.step) (by omega) (by omega) q5 q6;go_wp2;go_ret;exact ⟨DL hM.out.symm,hS.out⟩
end
section
open Go Go.RowKit
theorem BD(n lo hi:Int)(w:World):Calls Tryz.prog 20 #[int i64 n,int i64 lo,int i64 hi] w λe w'=>e=.returned (.bool (inB n lo hi))∧w=w':=by
 go_enter Tryz.func20,Tryz.ntmps20;go_wp2
 all_goals
  go_ret;refine ⟨AT ?_,rfl⟩;unfold inB;rw [Bool.eq_iff_iff];simp;omega
def Aj:Ending:=.panicked [{ v:=.iface 56 (.agg #[]),recovered:=false }]
theorem Au(w:World):Calls Tryz.prog 19 #[.bool true] w λe w'=>e=.returned (.tuple #[])∧w=w':=by
 go_enter Tryz.func19,Tryz.ntmps19;go_wp2;go_end0;exact ⟨rfl,rfl⟩
theorem Am(w:World):Calls Tryz.prog 19 #[.bool false] w λe w'=>e=Aj∧w=w':=by
 go_enter Tryz.func19,Tryz.ntmps19;go_wp2;exact ⟨rfl,rfl,rfl⟩
def suitTab:List (Int×List Int):=[(1,[1,2,1,8,0,0,1,16]),(2,[0,0,1,8,0,0,1,16]),(3,[1,2,0,8,1,3,0,0]),(4,[1,2,0,8,1,3,0,0]),(5,[0,0,0,8,1,3,0,0]),(6,[0,0,0,0,0,0,1,7]),(7,[0,0,0,0,0,0,0,0]),(8,[0,0,0,0,0,0,0,0]),(9,[1,2,0,0,1,3,0,0])]
def Ek(k:Int):List Int:=((suitTab.find? λp=>decide (p.1=k)).map (·.2)).getD [0,0,0,0,0,0,0,0]
def DW(k:Int):Bool:=(suitTab.find? λp=>decide (p.1=k)).isSome
def Ld(l:List Int):Value:=.agg (l.map λn=>int i64 n).toArray
def suitKv:List (Int×Value):=suitTab.map λp=>(p.1,Ld p.2)
theorem Le(k:Int):As suitKv k=((suitTab.find? λp=>decide (p.1=k)).map (·.2)).map Ld:=by
 unfold As suitKv;rw [List.find?_map];simp only [Option.map_map]
 rfl
section
variable {κ:Type} [DecidableEq κ] {f:κ→Value} {d:TypeDesc} {P:Program} {K E:TypeId}
theorem B6(hf:KeyOf d f)(w:World){ops:Array Oper}{rest:List Oper}{o:Oper}{a:Act}{Q:Exit→Act→World→Prop}
  (hg:o.guard=none) (m x v:Operand) (t:TypeId) (hA:o.op=Op.insert t m x v∨o.op=Op.mapUpdate t m x v) (hT:P.underlying t=some (.map K E)) (hK:P.underlying K=some d) (b:Nat) (kvs kvs':List (κ×Value))
  (hm:a.eval m=.map (some b)) (h:MapAt f w b kvs) (hn:AD kvs) (k:κ) (hx:a.eval x=f k) (hp:Bj kvs k (a.eval v)=kvs')
  (hQ:∀W,MapAt f W b kvs'→(∀c,c≠b→W.heap[c]?=w.heap[c]?)→W.heap.size=w.heap.size→(∀n,n≤b→Below n w W)→wpList P ops Q rest (a.put o.dst undef) W) :
  wpList P ops Q (o::rest) a w:=by
 refine G5 hf w hg m x v t hA hT hK b kvs hm h hn k hx λob hM=>?_
 rw [hp] at hM;exact hQ _ hM (λc hc=>by simp only [Array.getElem?_setIfInBounds];rw [if_neg (λe=>hc e.symm)]) (by simp) λn hb=>Ap w b ob hb
end
theorem AC{W:World}{B:Nat}{cs z:Array Value}{t:TypeId}{w:World}{n:Nat}(h:W.heap[B]?=some (.cells z t (0,0)))(hb:Below n w W)(hn:n≤B):∃W',W.setRow B cs=W'∧W'.heap[B]?=some (.cells cs t (0,0))∧Below n w W':=by
 refine ⟨_,rfl,?_,hb.os,hb.tape,hb.output,by simpa [World.setRow] using hb.size,λb hA=>?_⟩
 ·simp only [World.setRow]
  rw [Array.getElem?_modify,if_pos rfl,h];rfl
 ·simp only [World.setRow]
  rw [Array.getElem?_modify,if_neg (by omega)];exact hb.block b hA
theorem BT(j:Nat):AD (suitKv.take j):=by
 unfold AD;have h:(suitKv.map (·.1)).Nodup:=by decide
 rw [List.map_take];exact h.sublist (List.take_sublist ..)
theorem Fy(k:Int):∃a b c d e f g h:Int,Ek k=[a,b,c,d,e,f,g,h]:=by
 unfold Ek suitTab;simp only [List.find?]
 repeat' split
 all_goals exact ⟨_,_,_,_,_,_,_,_,rfl⟩
theorem O7(k:Int)(w:World):Calls Tryz.prog 72 #[int i64 k] w λe w'=>e=.returned (.tuple #[Ld (Ek k),.bool (DW k)])∧Below w.heap.size w w':=by
 obtain ⟨W1,hP,gW1,bW1,sW1⟩:=Ag w #[int i64 0,int i64 0,int i64 0,int i64 0,int i64 0,int i64 0,int i64 0,int i64 0] 127;obtain ⟨W2,hQ,mW2,bW2,kW2⟩:∃W2,W1.alloc (.map #[] 0)=W2∧MapAt kI W2 W1.heap.size []∧Below W1.heap.size W1 W2∧W2.heap[w.heap.size]?=W1.heap[w.heap.size]?:=⟨_,rfl,MapAt.new W1,(Below.refl _ _).alloc (qn _) _,Below.heap_alloc _ _ _ (by omega)⟩;obtain ⟨r0,r1,r2,r3,r4,r5,r6,r7,hr⟩:=Fy k;have hv:Ld (Ek k)=.agg #[int i64 r0,int i64 r1,int i64 r2,int i64 r3,int i64 r4,int i64 r5,int i64 r6,int i64 r7]:=by rw [hr];rfl
 have hI:(As (suitKv.take 9) k).getD (.agg #[int i64 0,int i64 0,int i64 0,int i64 0,int i64 0,int i64 0,int i64 0,int i64 0])=.agg #[int i64 r0,int i64 r1,int i64 r2,int i64 r3,int i64 r4,int i64 r5,int i64 r6,int i64 r7]:=by
  rw [← hv,show suitKv.take 9=suitKv from rfl,Le];unfold Ek;cases suitTab.find? λp=>decide (p.1=k)<;>rfl
 have hJ:(As (suitKv.take 9) k).isSome=DW k:=by
  rw [show suitKv.take 9=suitKv from rfl,Le];unfold DW;simp
 have HG:=qh (And.intro hI hJ);have hH:=qh (show (#[int i64 r0,int i64 r1,int i64 r2,int i64 r3,int i64 r4,int i64 r5,int i64 r6,int i64 r7]:Array Value).all (·.oneCell')=true by simp [Value.oneCell']);have HM:Hid (MapAt kI W2 W1.heap.size (suitKv.take 0)):=qh mW2;have HN:Hid (w.heap.size<W1.heap.size):=qh (by omega);have HC:=qh (kW2.trans gW1);have HB:=qh (Ad bW1 bW2);rw [hv];clear mW2 bW2 kW2 gW1 bW1 sW1 hr hv hI hJ;generalize DW k=ok at *;have hR:=@run_makeMap Tryz.prog;go_enter Tryz.func72,Tryz.ntmps72
 go_wp2_with (first|(refine B6 Bc _ rfl _ _ _ 147 (Or.inl rfl) Tryz.underlying147 Tryz.underlying3 _ (suitKv.take 0) (suitKv.take 1) rfl HM.out (BT 0) 1 rfl (by rfl) ?_;intro W2 hA hB hG hC;have hD:=qh hA;have hE:=qh ((hB w.heap.size (by have:=HN.out;omega)).trans HC.out);have hF:=qh (HB.out.trans (hC w.heap.size (by have:=HN.out;omega)));clear hA hB hG hC HM HC HB;have HM:=hD;have HC:=hE;have HB:=hF;clear hD hE hF)|(refine B6 Bc _ rfl _ _ _ 147 (Or.inl rfl) Tryz.underlying147 Tryz.underlying3 _ (suitKv.take 1) (suitKv.take 2) rfl HM.out (BT 1) 2 rfl (by rfl) ?_;intro W2 hA hB hG hC;have hD:=qh hA;have hE:=qh ((hB w.heap.size (by have:=HN.out;omega)).trans HC.out);have hF:=qh (HB.out.trans (hC w.heap.size (by have:=HN.out;omega)));clear hA hB hG hC HM HC HB;have HM:=hD;have HC:=hE;have HB:=hF;clear hD hE hF)|(refine B6 Bc _ rfl _ _ _ 147 (Or.inl rfl) Tryz.underlying147 Tryz.underlying3 _ (suitKv.take 2) (suitKv.take 3) rfl HM.out (BT 2) 3 rfl (by rfl) ?_;intro W2 hA hB hG hC;have hD:=qh hA;have hE:=qh ((hB w.heap.size (by have:=HN.out;omega)).trans HC.out);have hF:=qh (HB.out.trans (hC w.heap.size (by have:=HN.out;omega)));clear hA hB hG hC HM HC HB;have HM:=hD;have HC:=hE;have HB:=hF;clear hD hE hF)|(refine B6 Bc _ rfl _ _ _ 147 (Or.inl rfl) Tryz.underlying147 Tryz.underlying3 _ (suitKv.take 3) (suitKv.take 4) rfl HM.out (BT 3) 4 rfl (by rfl) ?_;intro W2 hA hB hG hC;have hD:=qh hA;have hE:=qh ((hB w.heap.size (by have:=HN.out;omega)).trans HC.out);have hF:=qh (HB.out.trans (hC w.heap.size (by have:=HN.out;omega)));clear hA hB hG hC HM HC HB;have HM:=hD;have HC:=hE;have HB:=hF;clear hD hE hF)|(refine B6 Bc _ rfl _ _ _ 147 (Or.inl rfl) Tryz.underlying147 Tryz.underlying3 _ (suitKv.take 4) (suitKv.take 5) rfl HM.out (BT 4) 5 rfl (by rfl) ?_;intro W2 hA hB hG hC;have hD:=qh hA;have hE:=qh ((hB w.heap.size (by have:=HN.out;omega)).trans HC.out);have hF:=qh (HB.out.trans (hC w.heap.size (by have:=HN.out;omega)));clear hA hB hG hC HM HC HB;have HM:=hD;have HC:=hE;have HB:=hF;clear hD hE hF)|(refine B6 Bc _ rfl _ _ _ 147 (Or.inl rfl) Tryz.underlying147 Tryz.underlying3 _ (suitKv.take 5) (suitKv.take 6) rfl HM.out (BT 5) 6 rfl (by rfl) ?_;intro W2 hA hB hG hC;have hD:=qh hA;have hE:=qh ((hB w.heap.size (by have:=HN.out;omega)).trans HC.out);have hF:=qh (HB.out.trans (hC w.heap.size (by have:=HN.out;omega)));clear hA hB hG hC HM HC HB;have HM:=hD;have HC:=hE;have HB:=hF;clear hD hE hF)|(refine B6 Bc _ rfl _ _ _ 147 (Or.inl rfl) Tryz.underlying147 Tryz.underlying3 _ (suitKv.take 6) (suitKv.take 7) rfl HM.out (BT 6) 7 rfl (by rfl) ?_;intro W2 hA hB hG hC;have hD:=qh hA;have hE:=qh ((hB w.heap.size (by have:=HN.out;omega)).trans HC.out);have hF:=qh (HB.out.trans (hC w.heap.size (by have:=HN.out;omega)));clear hA hB hG hC HM HC HB;have HM:=hD;have HC:=hE;have HB:=hF;clear hD hE hF)|(refine B6 Bc _ rfl _ _ _ 147 (Or.inl rfl) Tryz.underlying147 Tryz.underlying3 _ (suitKv.take 7) (suitKv.take 8) rfl HM.out (BT 7) 8 rfl (by rfl) ?_;intro W2 hA hB hG hC;have hD:=qh hA;have hE:=qh ((hB w.heap.size (by have:=HN.out;omega)).trans HC.out);have hF:=qh (HB.out.trans (hC w.heap.size (by have:=HN.out;omega)));clear hA hB hG hC HM HC HB;have HM:=hD;have HC:=hE;have HB:=hF;clear hD hE hF)|(refine B6 Bc _ rfl _ _ _ 147 (Or.inl rfl) Tryz.underlying147 Tryz.underlying3 _ (suitKv.take 8) (suitKv.take 9) rfl HM.out (BT 8) 9 rfl (by rfl) ?_;intro W2 hA hB hG hC;have hD:=qh hA;have hE:=qh ((hB w.heap.size (by have:=HN.out;omega)).trans HC.out);have hF:=qh (HB.out.trans (hC w.heap.size (by have:=HN.out;omega)));clear hA hB hG hC HM HC HB;have HM:=hD;have HC:=hE;have HB:=hF;clear hD hE hF)|(refine G6 Bc _ rfl _ _ 147 true rfl Tryz.underlying147 Tryz.underlying3 (z:=.agg #[int i64 0,int i64 0,int i64 0,int i64 0,int i64 0,int i64 0,int i64 0,int i64 0]) (by kernel_rfl) _ _ rfl HM.out k rfl ?_;rw [HG.out.1,HG.out.2])|(refine wpList_store_row rfl 127 _ _ rfl w.heap.size #[int i64 r0,int i64 r1,int i64 r2,int i64 r3,int i64 r4,int i64 r5,int i64 r6,int i64 r7] rfl rfl 127 _ HC.out (by kernel_rfl) rfl hH.out ?_;obtain ⟨W9,hK,hL,hM⟩:=AC (cs:=#[int i64 r0,int i64 r1,int i64 r2,int i64 r3,int i64 r4,int i64 r5,int i64 r6,int i64 r7]) HC.out HB.out (qn _);rw [hK];have hN:=qh hL;have hO:=qh hM;clear hK hL hM HC HB;have HC:=hN;have HB:=hO;clear hN hO)|(refine wpList_load_row rfl 127 _ rfl w.heap.size rfl 127 #[int i64 r0,int i64 r1,int i64 r2,int i64 r3,int i64 r4,int i64 r5,int i64 r6,int i64 r7] (0,0) _ HC.out Tryz.underlying127 rfl (by kernel_rfl) ?_;simp only [Act.put,qD,qE,qF]))
 have hX:=HC.out;refine bodyPost_ret (v:=.tuple #[.agg #[int i64 r0,int i64 r1,int i64 r2,int i64 r3,int i64 r4,int i64 r5,int i64 r6,int i64 r7],.bool ok]) ?_ rfl ⟨rfl,HB.out⟩;have y0:=Aa hX 0 rfl;have y1:=Aa hX 1 rfl;have y2:=Aa hX 2 rfl;have y3:=Aa hX 3 rfl;have y4:=Aa hX 4 rfl;have y5:=Aa hX 5 rfl;have y6:=Aa hX 6 rfl;have y7:=Aa hX 7 rfl;clear hX;simp [results,Tryz.results72,go_sem,y0,y1,y2,y3,y4,y5,y6,y7]
end
section
open Go Go.RowKit
def CV(fa fb ta tb:Int):Bool:=BL fa fb&&BL ta tb&&decide (fa*tb<ta*fb)&&decide (0≤fa)&&decide (ta≤tb)
def ExP(b:Bool)(w:World)(e:Ending)(w':World):Prop:=((b=true∧e=.returned (.tuple #[]))∨(b=false∧e=Aj))∧Below w.heap.size w w'
theorem Mw(a b:Int):decide (Gv a b<0)=decide (a<b):=by
 unfold Gv;by_cases h:a<b
 ·rw [if_pos h,decide_eq_true h];rfl
 ·rw [if_neg h,decide_eq_false h]
  split<;>rfl
noncomputable def CG:Code:=(Tryz.f40.body).getD .skip
noncomputable def P0:Code:=qe 0 CG
noncomputable def P1:Code:=qe 1 CG
noncomputable def P2:Code:=qe 2 CG
noncomputable def P3:Code:=qe 3 CG
theorem Rm:Ab 1 CG=.seq P1 (Ab 2 CG):=rfl
theorem Ro:Ab 2 CG=.seq P2 (Ab 3 CG):=rfl
theorem Rp:Ab 3 CG=.seq P3 (Ab 4 CG):=rfl
theorem UC(mark kind side dir lev size n fa fb ta tb:Int)(wn:Nm)(A:Nat)(w W:World)(hb:Below w.heap.size w W)(hA:W.heap[A]?=some (.cells #[int i64 mark,int i64 kind,int i64 side,int i64 dir,int i64 lev,int i64 size,sv wn,int i64 n,int i64 fa,int i64 fb,int i64 ta,int i64 tb] 77 (0,0)))(e0 e2 e3 e4 e5 e6 e7 e8 e9 ea eb ec ed ee ef eg eh ei ej ek el em en eo ep eq er es et eu ev ew ex ey ez eA eB eC eD eE eF eG eH eI eJ eK eL eM eN eO eP eQ eR eS eT eU eV eW eX eY eZ aa ab ac ae af ag ah ai aj ak al am an ao:Value) :
  (Ab 4 CG).wp Tryz.prog (bodyPost Tryz.prog Tryz.f40 (ExP (CV fa fb ta tb) w)) { tmps:=#[e0,.pointer (some ⟨A,0,none⟩),e2,e3,e4,e5,e6,e7,e8,e9,ea,eb,ec,ed,ee,ef,eg,eh,ei,ej,ek,el,em,en,eo,ep,eq,er,es,et,eu,ev,ew,ex,ey,ez,eA,eB,eC,eD,eE,eF,eG,eH,eI,eJ,eK,eL,eM,eN,eO,eP,eQ,eR,eS,eT,eU,eV,eW,eX,eY,eZ,aa,ab,ac,ae,af,ag,ah,ai,aj,ak,al,am,an,ao],defers:=[] } W:=by
 have C:=Q6 fa fb ta tb W;have y8:=Aa hA 8 rfl;have y9:=Aa hA 9 rfl;have y10:=Aa hA 10 rfl;have y11:=Aa hA 11 rfl;have HC:=qh C;have HA:=qh hA;have HB:=qh hb;clear C hA hb
 conv=>arg 2;whnf
 go_wp2_with fail;refine HC.out.mono ?_;rintro e V ⟨rfl,hv⟩;have hC:=qh (Ad HB.out hv);have hB:=Ah hv HA.out;clear y8 y9 y10 y11 HC hv;have y8:=Aa hB 8 rfl;have y9:=Aa hB 9 rfl;have y10:=Aa hB 10 rfl;have y11:=Aa hB 11 rfl;clear hB HA;unfold KY
 cases hr:BL fa fb&&BL ta tb with
 | false =>
  have hz:CV fa fb ta tb=false:=by unfold CV;rw [hr];rfl
  have HZ:=qh hz;clear hr hz
  go_wp2_with (go_at_call 19;first|(refine (Au _).mono ?_;rintro e w2 ⟨rfl,rfl⟩)|(refine (Am _).mono ?_;unfold Aj;rintro e w2 ⟨rfl,rfl⟩));exact ⟨rfl,Or.inr ⟨HZ.out,rfl⟩,hC.out⟩
 | true =>
  obtain ⟨x,hx⟩:∃x,decide (fa*tb<ta*fb)=x:=⟨_,rfl⟩;obtain ⟨y,hy⟩:∃y,decide (0≤fa)=y:=⟨_,rfl⟩;obtain ⟨z,hz⟩:∃z,decide (ta≤tb)=z:=⟨_,rfl⟩;have hD:CV fa fb ta tb=(x&&y&&z):=by unfold CV;rw [hr,hx,hy,hz];rfl
  have hc:=Mw (fa*tb) (ta*fb);rw [hx] at hc;have HZ:=qh hD;generalize Gv (fa*tb) (ta*fb)=c at *;clear hr hD hx;cases x<;>cases y<;>cases z
  all_goals
   go_wp2_with (go_at_call 19;first|(refine (Au _).mono ?_;rintro e w2 ⟨rfl,rfl⟩)|(refine (Am _).mono ?_;unfold Aj;rintro e w2 ⟨rfl,rfl⟩))
   first
    | (go_end0;exact ⟨Or.inl ⟨HZ.out,rfl⟩,hC.out⟩)
    | exact ⟨rfl,Or.inr ⟨HZ.out,rfl⟩,hC.out⟩
    | trace_state
def CU(side dir lev size r0 r1 r2 r3 r4 r5 r6 r7:Int):List Bool:=[inB side r0 r1,inB dir r2 r3,inB lev r4 r5,inB size r6 r7]
def Ok(l:List Bool)(i:Nat):Prop:=∀j b,j<i→l[j]?=some b→b=true
theorem GE{l:List Bool}{i:Nat}{b:Bool}(h:Ok l i)(hb:l[i]?=some b)(ht:b=true):Ok l (i+1):=λj c hj hc=>by
 by_cases e:j=i
 ·subst e
  rw [hb] at hc;injection hc with hc;rw [← hc];exact ht
 ·exact h j c (by omega) hc
theorem Tk{l:List Bool}(h:Ok l l.length):l.all id=true:=List.all_eq_true.2 λb hb=>by
 obtain ⟨j,hj⟩:=List.getElem?_of_mem hb;exact h j b (ql.1 hj).1 hj
theorem QU{l:List Bool}{j:Nat}{b:Bool}(h:l[j]?=some b)(hb:b=false):l.all id=false:=by
 rw [← Bool.not_eq_true,List.all_eq_true];intro h2;have:=h2 b (List.mem_of_getElem? h);rw [hb] at this;cases this
theorem UB(mark kind side dir lev size n fa fb ta tb r0 r1 r2 r3 r4 r5 r6 r7:Int)(wn:Nm)(A R:Nat)(w W:World)(hb:Below w.heap.size w W)(hA:W.heap[A]?=some (.cells #[int i64 mark,int i64 kind,int i64 side,int i64 dir,int i64 lev,int i64 size,sv wn,int i64 n,int i64 fa,int i64 fb,int i64 ta,int i64 tb] 77 (0,0)))(hR:W.heap[R]?=some (.cells #[int i64 r0,int i64 r1,int i64 r2,int i64 r3,int i64 r4,int i64 r5,int i64 r6,int i64 r7] 127 (0,0)))(e0 e3 e4 e5 e6 e7 e8 e9 ea eb ec ed ee ef eg eh ei ej ek el em en eo ep eq er es et eu ev ew ex ey ez eA eB eC eD eE eF eG eH eI eJ eK eL eM eN eO eP eQ eR eS eT eU eV eW eX eY eZ aa ab ac ae af ag ah ai aj ak al am an ao:Value) :
  (Ab 3 CG).wp Tryz.prog (bodyPost Tryz.prog Tryz.f40 (ExP ((CU side dir lev size r0 r1 r2 r3 r4 r5 r6 r7).all id&&CV fa fb ta tb) w)) { tmps:=#[e0,.pointer (some ⟨A,0,none⟩),.pointer (some ⟨R,0,none⟩),e3,e4,e5,e6,e7,e8,e9,ea,eb,ec,ed,ee,ef,eg,eh,ei,ej,ek,el,em,en,eo,ep,eq,er,es,et,eu,ev,ew,ex,ey,ez,eA,eB,eC,eD,eE,eF,eG,eH,eI,eJ,eK,eL,eM,eN,eO,eP,eQ,eR,eS,eT,eU,eV,eW,eX,eY,eZ,aa,ab,ac,ae,af,ag,ah,ai,aj,ak,al,am,an,ao],defers:=[] } W:=by
 have y2:=Aa hA 2 rfl;have y3:=Aa hA 3 rfl;have y4:=Aa hA 4 rfl;have y5:=Aa hA 5 rfl;have z0:=Aa hR 0 rfl;have z1:=Aa hR 1 rfl;have z2:=Aa hR 2 rfl;have z3:=Aa hR 3 rfl;have z4:=Aa hR 4 rfl;have z5:=Aa hR 5 rfl;have z6:=Aa hR 6 rfl;have z7:=Aa hR 7 rfl
 have HE:Hid (∀V,Below W.heap.size W V→Ok (CU side dir lev size r0 r1 r2 r3 r4 r5 r6 r7) 4→∀(e0 e2 e3 e4 e5 e6 e7 e8 e9 ea eb ec ed ee ef eg eh ei ej ek el em en eo ep eq er es et eu ev ew ex ey ez eA eB eC eD eE eF eG eH eI eJ eK eL eM eN eO eP eQ eR eS eT eU eV eW eX eY eZ aa ab ac ae af ag ah ai aj ak al am an ao:Value),(Ab 4 CG).wp Tryz.prog (bodyPost Tryz.prog Tryz.f40 (ExP ((CU side dir lev size r0 r1 r2 r3 r4 r5 r6 r7).all id&&CV fa fb ta tb) w)) { tmps:=#[e0,.pointer (some ⟨A,0,none⟩),e2,e3,e4,e5,e6,e7,e8,e9,ea,eb,ec,ed,ee,ef,eg,eh,ei,ej,ek,el,em,en,eo,ep,eq,er,es,et,eu,ev,ew,ex,ey,ez,eA,eB,eC,eD,eE,eF,eG,eH,eI,eJ,eK,eL,eM,eN,eO,eP,eQ,eR,eS,eT,eU,eV,eW,eX,eY,eZ,aa,ab,ac,ae,af,ag,ah,ai,aj,ak,al,am,an,ao],defers:=[] } V):=qh λV hv ho=>by
  rw [Tk ho,Bool.true_and];exact UC mark kind side dir lev size n fa fb ta tb wn A w V (Ad hb hv) (Ah hv hA)
 have HF:Hid (∀j b,(CU side dir lev size r0 r1 r2 r3 r4 r5 r6 r7)[j]?=some b→b=false→((CU side dir lev size r0 r1 r2 r3 r4 r5 r6 r7).all id&&CV fa fb ta tb)=false):=qh λj b h1 h2=>by rw [QU h1 h2];rfl
 have HB:=qh hb;clear hA hR hb;generalize CV fa fb ta tb=rest at *;rw [Rp];refine Ae (λK hK=>?_);have HK:=qh hK;clear hK
 conv=>arg 2;whnf
 go_wp2_with fail;go_loopw [30] (λiv wr=>∃i:Nat,iv=int i64 i∧i≤4∧Hid (Ok (CU side dir lev size r0 r1 r2 r3 r4 r5 r6 r7) i)∧Hid (∃q,wr=W.drewN q)) (λiv _=>5-(intOf iv).toNat)
 case atStart=>exact ⟨0,rfl,Nat.zero_le _,qh (λj b h=>by omega),qh ⟨0,rfl⟩⟩
 case round =>
  obtain ⟨i,rfl,hE,hf,hq⟩:=hrel;obtain ⟨q,rfl⟩:=hq.out;have HW:Hid (Below w.heap.size w (W.drewN q).drew):=qh (Ao (Ao HB.out q) 1);have hD:Hid (∃q',(W.drewN q).drew=W.drewN q'):=qh ⟨q+1,rfl⟩;rcases (by omega:i=0∨i=1∨i=2∨i=3∨i=4) with rfl|rfl|rfl|rfl|rfl
  ·obtain ⟨b,hb⟩:∃b,inB side r0 r1=b:=⟨_,rfl⟩
   have hB:=qh hb;clear hb;have hC:∀V:World,(Instr.index 130 (.agg #[int i64 side,int i64 dir,int i64 lev,int i64 size]) (int i64 0)).run Tryz.prog V=.ok (int i64 side) V:=λV=>by kernel_rfl
   go_wp2_with fail;refine Cf (λw2=>w2=(W.drewN q).drew) 10 (by kernel_rfl) (by kernel_rfl) rfl ?_;intro w2 hS;subst hS;simp only [List.take_succ_cons,List.take_zero,List.drop_succ_cons,List.drop_zero]
   repeat still_step
   still_call ((BD _ _ _ _).mono λ_ _ ⟨e1,e2⟩=>⟨e1,e2.symm⟩)
   repeat still_step
   refine wpStill_nil ?_;rw [hB.out]
   cases b with
   | false =>
    have HZ:=qh (HF.out 0 _ rfl hB.out)
    go_wp2_with (go_at_call 19;first|(refine (Au _).mono ?_;rintro e w2 ⟨rfl,rfl⟩)|(refine (Am _).mono ?_;unfold Aj;rintro e w2 ⟨rfl,rfl⟩));exact ⟨rfl,Or.inr ⟨HZ.out,rfl⟩,HW.out⟩
   | true =>
    go_wp2_with (go_at_call 19;first|(refine (Au _).mono ?_;rintro e w2 ⟨rfl,rfl⟩)|(refine (Am _).mono ?_;unfold Aj;rintro e w2 ⟨rfl,rfl⟩));go_roundw
    case rel=>exact ⟨0+1,by go_num,by omega,qh (GE hf.out rfl hB.out),hD⟩
    case measure=>simp [intOf]
  ·obtain ⟨b,hb⟩:∃b,inB dir r2 r3=b:=⟨_,rfl⟩
   have hB:=qh hb;clear hb;have hC:∀V:World,(Instr.index 130 (.agg #[int i64 side,int i64 dir,int i64 lev,int i64 size]) (int i64 1)).run Tryz.prog V=.ok (int i64 dir) V:=λV=>by kernel_rfl
   go_wp2_with fail;refine Cf (λw2=>w2=(W.drewN q).drew) 10 (by kernel_rfl) (by kernel_rfl) rfl ?_;intro w2 hS;subst hS;simp only [List.take_succ_cons,List.take_zero,List.drop_succ_cons,List.drop_zero]
   repeat still_step
   still_call ((BD _ _ _ _).mono λ_ _ ⟨e1,e2⟩=>⟨e1,e2.symm⟩)
   repeat still_step
   refine wpStill_nil ?_;rw [hB.out]
   cases b with
   | false =>
    have HZ:=qh (HF.out 1 _ rfl hB.out)
    go_wp2_with (go_at_call 19;first|(refine (Au _).mono ?_;rintro e w2 ⟨rfl,rfl⟩)|(refine (Am _).mono ?_;unfold Aj;rintro e w2 ⟨rfl,rfl⟩));exact ⟨rfl,Or.inr ⟨HZ.out,rfl⟩,HW.out⟩
   | true =>
    go_wp2_with (go_at_call 19;first|(refine (Au _).mono ?_;rintro e w2 ⟨rfl,rfl⟩)|(refine (Am _).mono ?_;unfold Aj;rintro e w2 ⟨rfl,rfl⟩));go_roundw
    case rel=>exact ⟨1+1,by go_num,by omega,qh (GE hf.out rfl hB.out),hD⟩
    case measure=>simp [intOf]
  ·obtain ⟨b,hb⟩:∃b,inB lev r4 r5=b:=⟨_,rfl⟩
   have hB:=qh hb;clear hb;have hC:∀V:World,(Instr.index 130 (.agg #[int i64 side,int i64 dir,int i64 lev,int i64 size]) (int i64 2)).run Tryz.prog V=.ok (int i64 lev) V:=λV=>by kernel_rfl
   go_wp2_with fail;refine Cf (λw2=>w2=(W.drewN q).drew) 10 (by kernel_rfl) (by kernel_rfl) rfl ?_;intro w2 hS;subst hS;simp only [List.take_succ_cons,List.take_zero,List.drop_succ_cons,List.drop_zero]
   repeat still_step
   still_call ((BD _ _ _ _).mono λ_ _ ⟨e1,e2⟩=>⟨e1,e2.symm⟩)
   repeat still_step
   refine wpStill_nil ?_;rw [hB.out]
   cases b with
   | false =>
    have HZ:=qh (HF.out 2 _ rfl hB.out)
    go_wp2_with (go_at_call 19;first|(refine (Au _).mono ?_;rintro e w2 ⟨rfl,rfl⟩)|(refine (Am _).mono ?_;unfold Aj;rintro e w2 ⟨rfl,rfl⟩));exact ⟨rfl,Or.inr ⟨HZ.out,rfl⟩,HW.out⟩
   | true =>
    go_wp2_with (go_at_call 19;first|(refine (Au _).mono ?_;rintro e w2 ⟨rfl,rfl⟩)|(refine (Am _).mono ?_;unfold Aj;rintro e w2 ⟨rfl,rfl⟩));go_roundw
    case rel=>exact ⟨2+1,by go_num,by omega,qh (GE hf.out rfl hB.out),hD⟩
    case measure=>simp [intOf]
  ·obtain ⟨b,hb⟩:∃b,inB size r6 r7=b:=⟨_,rfl⟩
   have hB:=qh hb;clear hb;have hC:∀V:World,(Instr.index 130 (.agg #[int i64 side,int i64 dir,int i64 lev,int i64 size]) (int i64 3)).run Tryz.prog V=.ok (int i64 size) V:=λV=>by kernel_rfl
   go_wp2_with fail;refine Cf (λw2=>w2=(W.drewN q).drew) 10 (by kernel_rfl) (by kernel_rfl) rfl ?_;intro w2 hS;subst hS;simp only [List.take_succ_cons,List.take_zero,List.drop_succ_cons,List.drop_zero]
   repeat still_step
   still_call ((BD _ _ _ _).mono λ_ _ ⟨e1,e2⟩=>⟨e1,e2.symm⟩)
   repeat still_step
   refine wpStill_nil ?_;rw [hB.out]
   cases b with
   | false =>
    have HZ:=qh (HF.out 3 _ rfl hB.out)
    go_wp2_with (go_at_call 19;first|(refine (Au _).mono ?_;rintro e w2 ⟨rfl,rfl⟩)|(refine (Am _).mono ?_;unfold Aj;rintro e w2 ⟨rfl,rfl⟩));exact ⟨rfl,Or.inr ⟨HZ.out,rfl⟩,HW.out⟩
   | true =>
    go_wp2_with (go_at_call 19;first|(refine (Au _).mono ?_;rintro e w2 ⟨rfl,rfl⟩)|(refine (Am _).mono ?_;unfold Aj;rintro e w2 ⟨rfl,rfl⟩));go_roundw
    case rel=>exact ⟨3+1,by go_num,by omega,qh (GE hf.out rfl hB.out),hD⟩
    case measure=>simp [intOf]
  ·go_wp2_with fail
   refine HK.out _ _ ?_;exact HE.out _ (Ao (Below.refl _ _) q) hf.out _ _ _ _ _ _ _ _ _ _ _ _ _ _ _ _ _ _ _ _ _ _ _ _ _ _ _ _ _ _ _ _ _ _ _ _ _ _ _ _ _ _ _ _ _ _ _ _ _ _ _ _ _ _ _ _ _ _ _ _ _ _ _ _ _ _ _ _ _ _ _ _ _ _ _
def R3(kind side dir lev size:Int):Bool:=match Ek kind with
 | [r0,r1,r2,r3,r4,r5,r6,r7]=>(CU side dir lev size r0 r1 r2 r3 r4 r5 r6 r7).all id
 | _=>false
def KO(mark kind side dir lev size fa fb ta tb:Int):Bool:=(DW kind&&inB mark 1 3)&&(R3 kind side dir lev size&&CV fa fb ta tb)
theorem LE(mark kind side dir lev size n fa fb ta tb:Int)(wn:Nm)(w:World):Calls Tryz.prog 40 #[.agg #[int i64 mark,int i64 kind,int i64 side,int i64 dir,int i64 lev,int i64 size,sv wn,int i64 n,int i64 fa,int i64 fb,int i64 ta,int i64 tb]] w (ExP (KO mark kind side dir lev size fa fb ta tb) w):=by
 obtain ⟨W1,hI,gW1,bW1,sW1⟩:=Ag w #[int i64 mark,int i64 kind,int i64 side,int i64 dir,int i64 lev,int i64 size,sv wn,int i64 n,int i64 fa,int i64 fb,int i64 ta,int i64 tb] 77;obtain ⟨r0,r1,r2,r3,r4,r5,r6,r7,hr⟩:=Fy kind;have hv:Ld (Ek kind)=.agg #[int i64 r0,int i64 r1,int i64 r2,int i64 r3,int i64 r4,int i64 r5,int i64 r6,int i64 r7]:=by rw [hr];rfl
 have hC:(#[int i64 r0,int i64 r1,int i64 r2,int i64 r3,int i64 r4,int i64 r5,int i64 r6,int i64 r7]:Array Value).all (·.oneCell')=true:=by simp [Value.oneCell']
 have hD:R3 kind side dir lev size=(CU side dir lev size r0 r1 r2 r3 r4 r5 r6 r7).all id:=by unfold R3;rw [hr]
 have C:=O7 kind W1;rw [hv] at C;have HM:Hid (KO mark kind side dir lev size fa fb ta tb=((DW kind&&inB mark 1 3)&&((CU side dir lev size r0 r1 r2 r3 r4 r5 r6 r7).all id&&CV fa fb ta tb))):=qh (by unfold KO;rw [hD]);generalize KO mark kind side dir lev size fa fb ta tb=mb at *;obtain ⟨ok,hJ⟩:∃ok,DW kind=ok:=⟨_,rfl⟩;rw [hJ] at C HM;have HC:=qh C;have HO:=qh hC;have hL:=qh hI;have HG:=qh gW1;have HB:=qh bW1;clear C hC hv hr hD hJ hI gW1 bW1;obtain ⟨cs,hF⟩:∃cs:Array Value,#[int i64 mark,int i64 kind,int i64 side,int i64 dir,int i64 lev,int i64 size,sv wn,int i64 n,int i64 fa,int i64 fb,int i64 ta,int i64 tb]=cs:=⟨_,rfl⟩;have hQ:=qh hF;have hA:=hL.out;rw [hF] at hA ⊢;have hE:=qh hA;clear hF hA hL;go_enter Tryz.func40,Tryz.ntmps40;change Code.wp Tryz.prog (.seq P0 (Ab 1 CG)) _ _ _;refine Ae (λK hK=>?_);have HK:=qh hK;clear hK
 conv=>arg 2;whnf
 go_wp2_with fail;refine HK.out _ _ ?_;rw [hE.out];clear HK K hE hQ;have y1:=Aa HG.out 1 rfl;rw [Rm];refine Ae (λK hK=>?_);have HK:=qh hK;clear hK
 conv=>arg 2;whnf
 go_wp2_with fail;refine HC.out.mono ?_;rintro e V ⟨rfl,hv⟩;have hG:=Ah hv HG.out;have hM:=Ad HB.out hv;obtain ⟨W3,hR,gW3,bW3,sW3⟩:=Ag V #[int i64 0,int i64 0,int i64 0,int i64 0,int i64 0,int i64 0,int i64 0,int i64 0] 127;obtain ⟨W4,hN,gW4,bW4⟩:=AC (cs:=#[int i64 r0,int i64 r1,int i64 r2,int i64 r3,int i64 r4,int i64 r5,int i64 r6,int i64 r7]) gW3 bW3 (qn _);have hT:w.heap.size<V.heap.size:=(qs.1 hG).1;have hB:=Ah bW4 hG;have H3:=qh (And.intro gW3 hN);have HX:=qh (And.intro hB (And.intro gW4 (Ad hM bW4)));clear HC HG y1 hv hG hM gW3 bW3 sW3 hN gW4 bW4 hB HB;have y1':True:=trivial
 go_wp2_with (refine wpList_store_row rfl 127 _ _ rfl V.heap.size #[int i64 r0,int i64 r1,int i64 r2,int i64 r3,int i64 r4,int i64 r5,int i64 r6,int i64 r7] rfl rfl 127 _ H3.out.1 (by kernel_rfl) rfl HO.out ?_;rw [H3.out.2]);refine HK.out _ _ ?_;clear HK K H3 hR;obtain ⟨hB,gW4,hH⟩:=HX.out;have y0:=Aa hB 0 rfl
 have HE:=qh (λ(b:Bool) (hS:mb=((CU side dir lev size r0 r1 r2 r3 r4 r5 r6 r7).all id&&CV fa fb ta tb))=>by
  have:=UB mark kind side dir lev size n fa fb ta tb r0 r1 r2 r3 r4 r5 r6 r7 wn w.heap.size V.heap.size w W4 hH hB gW4;rw [← hS] at this
  exact this)
 have hO:=qh hH;clear hB gW4 hH HX;generalize V.heap.size=R at *;rw [Ro];refine Ae (λK hK=>?_);have HK:=qh hK;clear hK
 conv=>arg 2;whnf
 obtain ⟨b,hb⟩:∃b,inB mark 1 3=b:=⟨_,rfl⟩;have hP:=qh hb;rw [hb] at HM;clear hb
 cases ok with
 | false =>
  go_wp2_with (go_at_call 19;first|(refine (Au _).mono ?_;rintro e w2 ⟨rfl,rfl⟩)|(refine (Am _).mono ?_;unfold Aj;rintro e w2 ⟨rfl,rfl⟩));exact ⟨rfl,Or.inr ⟨by rw [HM.out];rfl,rfl⟩,hO.out⟩
 | true =>
  cases b with
  | false =>
   go_wp2_with (first|(go_at_call 20;refine (BD _ _ _ _).mono ?_;rw [hP.out];rintro e w2 ⟨rfl,rfl⟩)|(go_at_call 19;first|(refine (Au _).mono ?_;rintro e w2 ⟨rfl,rfl⟩)|(refine (Am _).mono ?_;unfold Aj;rintro e w2 ⟨rfl,rfl⟩)));exact ⟨rfl,Or.inr ⟨by rw [HM.out];rfl,rfl⟩,hO.out⟩
  | true =>
   go_wp2_with (first|(go_at_call 20;refine (BD _ _ _ _).mono ?_;rw [hP.out];rintro e w2 ⟨rfl,rfl⟩)|(go_at_call 19;first|(refine (Au _).mono ?_;rintro e w2 ⟨rfl,rfl⟩)|(refine (Am _).mono ?_;unfold Aj;rintro e w2 ⟨rfl,rfl⟩)));refine HK.out _ _ ?_;exact HE.out true (by rw [HM.out];simp) _ _ _ _ _ _ _ _ _ _ _ _ _ _ _ _ _ _ _ _ _ _ _ _ _ _ _ _ _ _ _ _ _ _ _ _ _ _ _ _ _ _ _ _ _ _ _ _ _ _ _ _ _ _ _ _ _ _ _ _ _ _ _ _ _ _ _ _ _ _ _ _ _ _
def BX(m:Mov):Bool:=KO m.mark m.kind m.side m.dir m.level m.size m.fa m.fb m.ta m.tb
def D0(k n:Int):Bool:=if k=2 then inB n 1 64 else decide (n=0)
def Its.exB:Its→Bool
 | .nil=>true
 | .cons k n _ its ms r=>D0 k n&&((decide (its.len=0)||(decide (k=2)||decide (k=3)))&&((decide (ms.length=0)||decide (k=1))&&((ms.all BX&&its.exB)&&r.exB)))
noncomputable def SN:Code:=(Tryz.f22.body).getD .skip
noncomputable def Bz:Code:=match SN with
 | .seq _ (.block _ (.loop (.seq _ (.seq _ (.seq (.block _ c) _)))))=>c
 | c=>c
noncomputable def OZ:Code:=qe 4 Bz
noncomputable def OW:Code:=qe 1 Bz
noncomputable def OX:Code:=qe 2 Bz
noncomputable def OY:Code:=qe 3 Bz
def BU:List PanicEntry:=[{ v:=.iface 56 (.agg #[]),recovered:=false }]
theorem BW{b:Bool}(h:b=false)(w:World):Calls Tryz.prog 19 #[.bool b] w λe w'=>e=Aj∧w=w':=by subst h;exact Am w
theorem LF{b:Bool}{w w':World}{e:Ending}(h:ExP b w e w'):(b=true∧e=.returned (.tuple #[])∧Below w.heap.size w w')∨(b=false∧e=.panicked BU∧Below w.heap.size w w'):=by
 rcases h with ⟨⟨h1,h2⟩|⟨h1,h2⟩,h3⟩
 ·exact Or.inl ⟨h1,h2,h3⟩
 ·exact Or.inr ⟨h1,h2,h3⟩
theorem Uy(k n u:Int)(un:Nm)(ia:Option Addr)(ic l:Nat)(ma:Option Addr)(mc m:Nat)(X:Nat)(Q:Exit→Act→World→Prop)(W:World)(hX:W.heap[X]?=some (.cells #[int i64 k,int i64 n,sv un,int i64 u,.slice ia l ic,.slice ma m mc] 48 (0,0)))(b:Bool)(C:∀V,Below W.heap.size W V→Calls Tryz.prog 22 #[.slice ia l ic] V (ExP b V))
  (hN:b=true→∀(x5 x9 aa ab ac ae af ag ah ai aj ak al am an ao ap aq ar au av aw ax ay az aA aB aC aD aE aF aG aH aI aJ aK aL aM aN aO aP aQ aR aS aT aU aV aW aX aY aZ ba bb bc:Value) (V:World),Below W.heap.size W V→Q .normal { tmps:=#[e0,e1,e2,.pointer (some ⟨X,0,none⟩),e4,x5,e6,e7,e8,x9,aa,ab,ac,ae,af,ag,ah,ai,aj,ak,al,am,an,ao,ap,aq,ar,au,av,aw,ax,ay,az,aA,aB,aC,aD,aE,aF,aG,aH,aI,aJ,aK,aL,aM,aN,aO,aP,aQ,aR,aS,aT,aU,aV,aW,aX,aY,aZ,ba,bb,bc],defers:=[] } V)
  (hP:b=false→∀(a:Act) (V:World),a.defers=[]→Below W.heap.size W V→Q (.panic BU) a V) :
  (Ab 5 Bz).wp Tryz.prog Q { tmps:=#[e0,e1,e2,.pointer (some ⟨X,0,none⟩),e4,e5,e6,e7,e8,e9,ea,eb,ec,ed,ee,ef,eg,eh,ei,ej,ek,el,em,en,eo,ep,eq,er,es,et,eu,ev,ew,ex,ey,ez,eA,eB,eC,eD,eE,eF,eG,eH,eI,eJ,eK,eL,eM,eN,eO,eP,eQ,eR,eS,eT,eU,eV,eW,eX,eY,eZ],defers:=[] } W:=by
 have y4:=Aa hX 4 rfl;have C:=C W (Below.refl _ _);have HC:=qh C;have HN:=qh hN;have HP:=qh hP;clear C hX hN hP
 conv=>arg 2;whnf
 go_wp2_with (go_at_call 22;refine HC.out.mono ?_;intro e V he;rcases LF he with ⟨h1,rfl,hb⟩|⟨h1,rfl,hb⟩<;>clear he)
 ·exact HN.out h1 _ _ _ _ _ _ _ _ _ _ _ _ _ _ _ _ _ _ _ _ _ _ _ _ _ _ _ _ _ _ _ _ _ _ _ _ _ _ _ _ _ _ _ _ _ _ _ _ _ _ _ _ _ _ _ hb
 ·exact HP.out h1 _ _ rfl hb
theorem Ux(k n u:Int)(un:Nm)(ia:Option Addr)(ic l:Nat)(ma:Option Addr)(mc m:Nat)(X:Nat)(Q:Exit→Act→World→Prop)(W:World)(hX:W.heap[X]?=some (.cells #[int i64 k,int i64 n,sv un,int i64 u,.slice ia l ic,.slice ma m mc] 48 (0,0)))(b:Bool)(C:∀V,Below W.heap.size W V→Calls Tryz.prog 22 #[.slice ia l ic] V (ExP b V))(ms:List Mov)(ks:List Int)(hH:ms.length=m)(hI:ms=[]∨ma=some ⟨blk ma,off ma,none⟩)(hU:m≤maxLen)(hJ:B8 W (blk ma) (off ma) ms)(hO:NsAt W (Aq (blk ma) (off ma) ms) ks)(e0 e1 e2 e4 e5 e6 e7 e8 e9 ea eb ec ed ee ef eg eh ei ej ek el em en eo ep eq er es et eu ev ew ex ey ez eA eB eC eD eE eF eG eH eI eJ eK eL eM eN eO eP eQ eR eS eT eU eV eW eX eY eZ:Value)
  (hN:(ms.all BX&&b)=true→∀(x5 x9 aa ab ac ae af ag ah ai aj ak al am an ao ap aq ar au av aw ax ay az aA aB aC aD aE aF aG aH aI aJ aK aL aM aN aO aP aQ aR aS aT aU aV aW aX aY aZ ba bb bc:Value) (V:World),Below W.heap.size W V→Q .normal { tmps:=#[e0,e1,e2,.pointer (some ⟨X,0,none⟩),e4,x5,e6,e7,e8,x9,aa,ab,ac,ae,af,ag,ah,ai,aj,ak,al,am,an,ao,ap,aq,ar,au,av,aw,ax,ay,az,aA,aB,aC,aD,aE,aF,aG,aH,aI,aJ,aK,aL,aM,aN,aO,aP,aQ,aR,aS,aT,aU,aV,aW,aX,aY,aZ,ba,bb,bc],defers:=[] } V)
  (hP:(ms.all BX&&b)=false→∀(a:Act) (V:World),a.defers=[]→Below W.heap.size W V→Q (.panic BU) a V) :
  (Ab 4 Bz).wp Tryz.prog Q { tmps:=#[e0,e1,e2,.pointer (some ⟨X,0,none⟩),e4,e5,e6,e7,e8,e9,ea,eb,ec,ed,ee,ef,eg,eh,ei,ej,ek,el,em,en,eo,ep,eq,er,es,et,eu,ev,ew,ex,ey,ez,eA,eB,eC,eD,eE,eF,eG,eH,eI,eJ,eK,eL,eM,eN,eO,eP,eQ,eR,eS,eT,eU,eV,eW,eX,eY,eZ],defers:=[] } W:=by
 have y5:=Aa hX 5 rfl;have HC:=qh C;have HN:=qh hN;have HP:=qh hP;have hV:=qh hI;have hW:=qh hJ;have hY:=qh hO;have HX:=qh hX;have hE:=qh hH;clear C hX hN hP hI hJ hO hH;unfold maxLen at hU;change Code.wp Tryz.prog (.seq (OZ) (Ab 5 Bz)) _ _ _;refine Ae (λK hK=>?_);have HK:=qh hK;clear hK
 conv=>arg 2;whnf
 go_wp2_with fail;go_loopw [51] (λjv wr=>∃(j:Nat) (s:List Mov) (ls:List Int),jv=int i64 j∧j+s.length=m∧Hid (ms.all BX=s.all BX)∧Hid (B8 wr (blk ma) (off ma+j*12) s)∧Hid (NsAt wr (Aq (blk ma) (off ma+j*12) s) ls)∧Hid (Below W.heap.size W wr)) (λjv _=>m+1-(intOf jv).toNat)
 case atStart=>exact ⟨0,ms,ks,rfl,by rw [hE.out];omega,qh rfl,by simpa [Hid] using hW.out,by simpa [Hid] using hY.out,qh (Below.refl _ _)⟩
 case round =>
  obtain ⟨j,s,ls,rfl,hF,hA,hM,hL,hB⟩:=hrel
  cases s with
  | nil =>
   simp only [List.length_nil,Nat.add_zero] at hF;subst hF;go_wp2_with fail;refine HK.out _ _ ?_;have ha:=hA.out;have e:(ms.all BX&&b)=b:=by rw [ha];rfl
   refine Uy k n u un ia ic l ma mc j X Q wr (Ah hB.out HX.out) b (λV hv=>HC.out V (Ad hB.out hv)) (λh x5 x9 aa ab ac ae af ag ah ai aj ak al am an ao ap aq ar au av aw ax ay az aA aB aC aD aE aF aG aH aI aJ aK aL aM aN aO aP aQ aR aS aT aU aV aW aX aY aZ ba bb bc V hv=>HN.out (e.trans h) x5 x9 aa ab ac ae af ag ah ai aj ak al am an ao ap aq ar au av aw ax ay az aA aB aC aD aE aF aG aH aI aJ aK aL aM aN aO aP aQ aR aS aT aU aV aW aX aY aZ ba bb bc V (Ad hB.out hv)) (λh a V hd hv=>HP.out (e.trans h) a V hd (Ad hB.out hv))
  | cons x s =>
   simp only [List.length_cons] at hF;have hj:(j:Int)<(m:Int):=by omega
   have ema:=hV.out.resolve_left (λe=>by rw [e] at hE;have:=hE.out;simp at this;omega)
   cases ls with
   | nil=>exact absurd hL.out (by simp [Aq,NsAt])
   | cons n1 ls =>
   obtain ⟨⟨f0,f1,f2,f3,f4,f5,f6,f8,f9,f10,f11⟩,hQ⟩:=hM.out;obtain ⟨f7,hR⟩:=hL.out
   have hS:Hid (B8 wr (blk ma) (off ma+(j+1)*12) s∧NsAt wr (Aq (blk ma) (off ma+(j+1)*12) s) ls):=qh (by
    rw [show off ma+(j+1)*12=off ma+j*12+12 by omega]
    exact ⟨hQ,hR⟩)
   obtain ⟨W2,hi,gW2,bW2,sW2⟩:=Ag wr #[int i64 x.mark,int i64 x.kind,int i64 x.side,int i64 x.dir,int i64 x.level,int i64 x.size,sv x.wn,int i64 n1,int i64 x.fa,int i64 x.fb,int i64 x.ta,int i64 x.tb] 77;have CX:=LE x.mark x.kind x.side x.dir x.level x.size n1 x.fa x.fb x.ta x.tb x.wn W2;obtain ⟨bx,hG⟩:∃bx,KO x.mark x.kind x.side x.dir x.level x.size x.fa x.fb x.ta x.tb=bx:=⟨_,rfl⟩;rw [hG] at CX;have hT:BX x=bx:=hG;have ha:=hA.out;rw [List.all_cons,hT] at ha;have HA:=qh ha;have hZ:=qh CX;have hD:=qh bW2;have hc:=qh gW2;clear hM hL hQ hR CX hG hT ha hA bW2 sW2;have hC:(#[int i64 x.mark,int i64 x.kind,int i64 x.side,int i64 x.dir,int i64 x.level,int i64 x.size,sv x.wn,int i64 n1,int i64 x.fa,int i64 x.fb,int i64 x.ta,int i64 x.tb]:Array Value).all (·.oneCell')=true:=by simp [Value.oneCell']
   generalize x.mark=x0 at *;generalize x.kind=x1 at *;generalize x.side=x2 at *;generalize x.dir=x3 at *;generalize x.level=x4 at *;generalize x.size=x5 at *;generalize x.wn=x6 at *;generalize x.fa=x8 at *;generalize x.fb=x9 at *;generalize x.ta=aa at *;generalize x.tb=ab at *;have hf:=qh hC;clear hC gW2;generalize hg:blk ma=b3 at *;generalize hh:off ma=o3 at *;subst ema;clear hg hh;have st0:True:=trivial
   go_wp2_with (first
    | (have q:=st0;clear q st0;refine wpList_load_row rfl 77 _ rfl wr.heap.size rfl 77 #[int i64 x0,int i64 x1,int i64 x2,int i64 x3,int i64 x4,int i64 x5,sv x6,int i64 n1,int i64 x8,int i64 x9,int i64 aa,int i64 ab] (0,0) _ hc.out Tryz.underlying77 rfl (by kernel_rfl) ?_;simp only [Act.put,qD,qE,qF])
    | (go_at_call 40;refine hZ.out.mono ?_;intro e V he;rcases LF he with ⟨h1,rfl,hb⟩|⟨h1,rfl,hb⟩<;>clear he))
   ·go_roundw
    case rel=>exact ⟨j+1,s,ls,by go_num,by omega,qh (by rw [HA.out,h1];rfl),qh (C6 hS.out.1 (Ad hD.out hb)),qh (hS.out.2.below (Ad hD.out hb)),qh (Ad hB.out (Ad hD.out hb))⟩
    case measure=>simp [intOf];omega
   ·exact HP.out (by rw [HA.out,h1];rfl) _ _ rfl (Ad hB.out (Ad hD.out hb))
theorem Uw(k n u:Int)(un:Nm)(ia:Option Addr)(ic l:Nat)(ma:Option Addr)(mc m:Nat)(X:Nat)(Q:Exit→Act→World→Prop)(W:World)(hX:W.heap[X]?=some (.cells #[int i64 k,int i64 n,sv un,int i64 u,.slice ia l ic,.slice ma m mc] 48 (0,0)))(b:Bool)(C:∀V,Below W.heap.size W V→Calls Tryz.prog 22 #[.slice ia l ic] V (ExP b V))(ms:List Mov)(ks:List Int)(hA:ms.length=m)(hB:ms=[]∨ma=some ⟨blk ma,off ma,none⟩)(hC:m≤maxLen)(hD:B8 W (blk ma) (off ma) ms)(hE:NsAt W (Aq (blk ma) (off ma) ms) ks)(e0 e1 e2 e4 e5 e6 e7 e8 e9 ea eb ec ed ee ef eg eh ei ej ek el em en eo ep eq er es et eu ev ew ex ey ez eA eB eC eD eE eF eG eH eI eJ eK eL eM eN eO eP eQ eR eS eT eU eV eW eX eY eZ:Value)
  (hN:((decide (m=0)||decide (k=1))&&(ms.all BX&&b))=true→∀(x5 x9 aa ab ac ae af ag ah ai aj ak al am an ao ap aq ar au av aw ax ay az aA aB aC aD aE aF aG aH aI aJ aK aL aM aN aO aP aQ aR aS aT aU aV aW aX aY aZ ba bb bc:Value) (V:World),Below W.heap.size W V→Q .normal { tmps:=#[e0,e1,e2,.pointer (some ⟨X,0,none⟩),e4,x5,e6,e7,e8,x9,aa,ab,ac,ae,af,ag,ah,ai,aj,ak,al,am,an,ao,ap,aq,ar,au,av,aw,ax,ay,az,aA,aB,aC,aD,aE,aF,aG,aH,aI,aJ,aK,aL,aM,aN,aO,aP,aQ,aR,aS,aT,aU,aV,aW,aX,aY,aZ,ba,bb,bc],defers:=[] } V)
  (hP:((decide (m=0)||decide (k=1))&&(ms.all BX&&b))=false→∀(a:Act) (V:World),a.defers=[]→Below W.heap.size W V→Q (.panic BU) a V) :
  (Ab 3 Bz).wp Tryz.prog Q { tmps:=#[e0,e1,e2,.pointer (some ⟨X,0,none⟩),e4,e5,e6,e7,e8,e9,ea,eb,ec,ed,ee,ef,eg,eh,ei,ej,ek,el,em,en,eo,ep,eq,er,es,et,eu,ev,ew,ex,ey,ez,eA,eB,eC,eD,eE,eF,eG,eH,eI,eJ,eK,eL,eM,eN,eO,eP,eQ,eR,eS,eT,eU,eV,eW,eX,eY,eZ],defers:=[] } W:=by
 have y0:=Aa hX 0 rfl;have y5:=Aa hX 5 rfl;have HE:Hid ((decide (m=0)||decide (k=1))=true→∀(y5 y9 y10 y11 y12 y13 y14 y15 y16 y17 y18 y19 y20 y21 y22 y23 y24 y25 y26 y27 y28 y29 y30 y31 y32 y33 y34 y35 y36 y37 y38 y39 y40 y41 y42 y43 y44 y45 y46 y47 y48 y49 y50 y51 y52 y53 y54 y55 y56 y57 y58 y59 y60 y61:Value),(Ab 4 Bz).wp Tryz.prog Q { tmps:=#[e0,e1,e2,.pointer (some ⟨X,0,none⟩),e4,y5,e6,e7,e8,y9,y10,y11,y12,y13,y14,y15,y16,y17,y18,y19,y20,y21,y22,y23,y24,y25,y26,y27,y28,y29,y30,y31,y32,y33,y34,y35,y36,y37,y38,y39,y40,y41,y42,y43,y44,y45,y46,y47,y48,y49,y50,y51,y52,y53,y54,y55,y56,y57,y58,y59,y60,y61],defers:=[] } W):=qh λh y5 y9 y10 y11 y12 y13 y14 y15 y16 y17 y18 y19 y20 y21 y22 y23 y24 y25 y26 y27 y28 y29 y30 y31 y32 y33 y34 y35 y36 y37 y38 y39 y40 y41 y42 y43 y44 y45 y46 y47 y48 y49 y50 y51 y52 y53 y54 y55 y56 y57 y58 y59 y60 y61=>Ux k n u un ia ic l ma mc m X Q W hX b C ms ks hA hB hC hD hE e0 e1 e2 e4 y5 e6 e7 e8 y9 y10 y11 y12 y13 y14 y15 y16 y17 y18 y19 y20 y21 y22 y23 y24 y25 y26 y27 y28 y29 y30 y31 y32 y33 y34 y35 y36 y37 y38 y39 y40 y41 y42 y43 y44 y45 y46 y47 y48 y49 y50 y51 y52 y53 y54 y55 y56 y57 y58 y59 y60 y61 (λh2=>hN (by rw [h,h2];rfl)) (λh2=>hP (by rw [h,h2];rfl))
 have HP:Hid ((decide (m=0)||decide (k=1))=false→∀(a:Act),a.defers=[]→Q (.panic BU) a W):=qh λh a hd=>hP (by rw [h];rfl) a W hd (Below.refl _ _)
 clear hX hN hP C hA hB hC hD hE;change Code.wp Tryz.prog (.seq OY (Ab 4 Bz)) _ _ _;refine Ae (λK hK=>?_);have HK:=qh hK;clear hK
 conv=>arg 2;whnf
 by_cases hG:(m:Int)=0
 ·have hg:(decide (m=0)||decide (k=1))=true:=by rw [decide_eq_true (by omega:m=0)];rfl
  have HG:=qh hg;clear hg
  go_wp2_with (go_at_call 19;first|(refine (Au _).mono ?_;rintro e w2 ⟨rfl,rfl⟩)|(refine (Am _).mono ?_;unfold Aj;rintro e w2 ⟨rfl,rfl⟩)|(refine (BW (by simp only [Bool.or_eq_false_iff,beq_eq_false_iff_ne,ne_eq];omega) _).mono ?_;unfold Aj;rintro e w2 ⟨rfl,rfl⟩));refine HK.out _ _ ?_;exact HE.out HG.out _ _ _ _ _ _ _ _ _ _ _ _ _ _ _ _ _ _ _ _ _ _ _ _ _ _ _ _ _ _ _ _ _ _ _ _ _ _ _ _ _ _ _ _ _ _ _ _ _ _ _ _ _ _
 ·by_cases hF:k=1
  ·have hg:(decide (m=0)||decide (k=1))=true:=by rw [decide_eq_true hF,Bool.or_true]
   have HG:=qh hg;clear hg
   go_wp2_with (go_at_call 19;first|(refine (Au _).mono ?_;rintro e w2 ⟨rfl,rfl⟩)|(refine (Am _).mono ?_;unfold Aj;rintro e w2 ⟨rfl,rfl⟩)|(refine (BW (by simp only [Bool.or_eq_false_iff,beq_eq_false_iff_ne,ne_eq];omega) _).mono ?_;unfold Aj;rintro e w2 ⟨rfl,rfl⟩));refine HK.out _ _ ?_;exact HE.out HG.out _ _ _ _ _ _ _ _ _ _ _ _ _ _ _ _ _ _ _ _ _ _ _ _ _ _ _ _ _ _ _ _ _ _ _ _ _ _ _ _ _ _ _ _ _ _ _ _ _ _ _ _ _ _
  ·have hg:(decide (m=0)||decide (k=1))=false:=by rw [decide_eq_false (by omega:¬m=0),decide_eq_false hF];rfl
   have HG:=qh hg;clear hg
   go_wp2_with (go_at_call 19;first|(refine (Au _).mono ?_;rintro e w2 ⟨rfl,rfl⟩)|(refine (Am _).mono ?_;unfold Aj;rintro e w2 ⟨rfl,rfl⟩)|(refine (BW (by simp only [Bool.or_eq_false_iff,beq_eq_false_iff_ne,ne_eq];omega) _).mono ?_;unfold Aj;rintro e w2 ⟨rfl,rfl⟩));refine HP.out HG.out _ ?_
   rfl
theorem Uv(k n u:Int)(un:Nm)(ia:Option Addr)(ic l:Nat)(ma:Option Addr)(mc m:Nat)(X:Nat)(Q:Exit→Act→World→Prop)(W:World)(hX:W.heap[X]?=some (.cells #[int i64 k,int i64 n,sv un,int i64 u,.slice ia l ic,.slice ma m mc] 48 (0,0)))(b:Bool)(C:∀V,Below W.heap.size W V→Calls Tryz.prog 22 #[.slice ia l ic] V (ExP b V))(ms:List Mov)(ks:List Int)(hA:ms.length=m)(hB:ms=[]∨ma=some ⟨blk ma,off ma,none⟩)(hC:m≤maxLen)(hD:B8 W (blk ma) (off ma) ms)(hE:NsAt W (Aq (blk ma) (off ma) ms) ks)(e0 e1 e2 e4 e5 e6 e7 e8 e9 ea eb ec ed ee ef eg eh ei ej ek el em en eo ep eq er es et eu ev ew ex ey ez eA eB eC eD eE eF eG eH eI eJ eK eL eM eN eO eP eQ eR eS eT eU eV eW eX eY eZ:Value)
  (hN:((decide (l=0)||(decide (k=2)||decide (k=3)))&&((decide (m=0)||decide (k=1))&&(ms.all BX&&b)))=true→∀(x5 x9 aa ab ac ae af ag ah ai aj ak al am an ao ap aq ar au av aw ax ay az aA aB aC aD aE aF aG aH aI aJ aK aL aM aN aO aP aQ aR aS aT aU aV aW aX aY aZ ba bb bc:Value) (V:World),Below W.heap.size W V→Q .normal { tmps:=#[e0,e1,e2,.pointer (some ⟨X,0,none⟩),e4,x5,e6,e7,e8,x9,aa,ab,ac,ae,af,ag,ah,ai,aj,ak,al,am,an,ao,ap,aq,ar,au,av,aw,ax,ay,az,aA,aB,aC,aD,aE,aF,aG,aH,aI,aJ,aK,aL,aM,aN,aO,aP,aQ,aR,aS,aT,aU,aV,aW,aX,aY,aZ,ba,bb,bc],defers:=[] } V)
  (hP:((decide (l=0)||(decide (k=2)||decide (k=3)))&&((decide (m=0)||decide (k=1))&&(ms.all BX&&b)))=false→∀(a:Act) (V:World),a.defers=[]→Below W.heap.size W V→Q (.panic BU) a V) :
  (Ab 2 Bz).wp Tryz.prog Q { tmps:=#[e0,e1,e2,.pointer (some ⟨X,0,none⟩),e4,e5,e6,e7,e8,e9,ea,eb,ec,ed,ee,ef,eg,eh,ei,ej,ek,el,em,en,eo,ep,eq,er,es,et,eu,ev,ew,ex,ey,ez,eA,eB,eC,eD,eE,eF,eG,eH,eI,eJ,eK,eL,eM,eN,eO,eP,eQ,eR,eS,eT,eU,eV,eW,eX,eY,eZ],defers:=[] } W:=by
 have y0:=Aa hX 0 rfl;have y4:=Aa hX 4 rfl;have HE:Hid ((decide (l=0)||(decide (k=2)||decide (k=3)))=true→∀(y5 y9 y10 y11 y12 y13 y14 y15 y16 y17 y18 y19 y20 y21 y22 y23 y24 y25 y26 y27 y28 y29 y30 y31 y32 y33 y34 y35 y36 y37 y38 y39 y40 y41 y42 y43 y44 y45 y46 y47 y48 y49 y50 y51 y52 y53 y54 y55 y56 y57 y58 y59 y60 y61:Value),(Ab 3 Bz).wp Tryz.prog Q { tmps:=#[e0,e1,e2,.pointer (some ⟨X,0,none⟩),e4,y5,e6,e7,e8,y9,y10,y11,y12,y13,y14,y15,y16,y17,y18,y19,y20,y21,y22,y23,y24,y25,y26,y27,y28,y29,y30,y31,y32,y33,y34,y35,y36,y37,y38,y39,y40,y41,y42,y43,y44,y45,y46,y47,y48,y49,y50,y51,y52,y53,y54,y55,y56,y57,y58,y59,y60,y61],defers:=[] } W):=qh λh y5 y9 y10 y11 y12 y13 y14 y15 y16 y17 y18 y19 y20 y21 y22 y23 y24 y25 y26 y27 y28 y29 y30 y31 y32 y33 y34 y35 y36 y37 y38 y39 y40 y41 y42 y43 y44 y45 y46 y47 y48 y49 y50 y51 y52 y53 y54 y55 y56 y57 y58 y59 y60 y61=>Uw k n u un ia ic l ma mc m X Q W hX b C ms ks hA hB hC hD hE e0 e1 e2 e4 y5 e6 e7 e8 y9 y10 y11 y12 y13 y14 y15 y16 y17 y18 y19 y20 y21 y22 y23 y24 y25 y26 y27 y28 y29 y30 y31 y32 y33 y34 y35 y36 y37 y38 y39 y40 y41 y42 y43 y44 y45 y46 y47 y48 y49 y50 y51 y52 y53 y54 y55 y56 y57 y58 y59 y60 y61 (λh2=>hN (by rw [h,h2];rfl)) (λh2=>hP (by rw [h,h2];rfl))
 have HP:Hid ((decide (l=0)||(decide (k=2)||decide (k=3)))=false→∀(a:Act),a.defers=[]→Q (.panic BU) a W):=qh λh a hd=>hP (by rw [h];rfl) a W hd (Below.refl _ _)
 clear hX hN hP C hA hB hC hD hE;change Code.wp Tryz.prog (.seq OX (Ab 3 Bz)) _ _ _;refine Ae (λK hK=>?_);have HK:=qh hK;clear hK
 conv=>arg 2;whnf
 by_cases hH:(l:Int)=0
 ·have hg:(decide (l=0)||(decide (k=2)||decide (k=3)))=true:=by rw [decide_eq_true (by omega:l=0)];rfl
  have HG:=qh hg;clear hg
  go_wp2_with (go_at_call 19;first|(refine (Au _).mono ?_;rintro e w2 ⟨rfl,rfl⟩)|(refine (Am _).mono ?_;unfold Aj;rintro e w2 ⟨rfl,rfl⟩)|(refine (BW (by simp only [Bool.or_eq_false_iff,beq_eq_false_iff_ne,ne_eq];omega) _).mono ?_;unfold Aj;rintro e w2 ⟨rfl,rfl⟩));refine HK.out _ _ ?_;exact HE.out HG.out _ _ _ _ _ _ _ _ _ _ _ _ _ _ _ _ _ _ _ _ _ _ _ _ _ _ _ _ _ _ _ _ _ _ _ _ _ _ _ _ _ _ _ _ _ _ _ _ _ _ _ _ _ _
 ·by_cases hF:k=2
  ·have hg:(decide (l=0)||(decide (k=2)||decide (k=3)))=true:=by rw [decide_eq_true hF,Bool.true_or,Bool.or_true]
   have HG:=qh hg;clear hg
   go_wp2_with (go_at_call 19;first|(refine (Au _).mono ?_;rintro e w2 ⟨rfl,rfl⟩)|(refine (Am _).mono ?_;unfold Aj;rintro e w2 ⟨rfl,rfl⟩)|(refine (BW (by simp only [Bool.or_eq_false_iff,beq_eq_false_iff_ne,ne_eq];omega) _).mono ?_;unfold Aj;rintro e w2 ⟨rfl,rfl⟩));refine HK.out _ _ ?_;exact HE.out HG.out _ _ _ _ _ _ _ _ _ _ _ _ _ _ _ _ _ _ _ _ _ _ _ _ _ _ _ _ _ _ _ _ _ _ _ _ _ _ _ _ _ _ _ _ _ _ _ _ _ _ _ _ _ _
  ·by_cases hG:k=3
   ·have hg:(decide (l=0)||(decide (k=2)||decide (k=3)))=true:=by rw [decide_eq_true hG,Bool.or_true,Bool.or_true]
    have HG:=qh hg;clear hg
    go_wp2_with (go_at_call 19;first|(refine (Au _).mono ?_;rintro e w2 ⟨rfl,rfl⟩)|(refine (Am _).mono ?_;unfold Aj;rintro e w2 ⟨rfl,rfl⟩)|(refine (BW (by simp only [Bool.or_eq_false_iff,beq_eq_false_iff_ne,ne_eq];omega) _).mono ?_;unfold Aj;rintro e w2 ⟨rfl,rfl⟩));refine HK.out _ _ ?_;exact HE.out HG.out _ _ _ _ _ _ _ _ _ _ _ _ _ _ _ _ _ _ _ _ _ _ _ _ _ _ _ _ _ _ _ _ _ _ _ _ _ _ _ _ _ _ _ _ _ _ _ _ _ _ _ _ _ _
   ·have hg:(decide (l=0)||(decide (k=2)||decide (k=3)))=false:=by rw [decide_eq_false (by omega:¬l=0),decide_eq_false hF,decide_eq_false hG];rfl
    have HG:=qh hg;clear hg
    go_wp2_with (go_at_call 19;first|(refine (Au _).mono ?_;rintro e w2 ⟨rfl,rfl⟩)|(refine (Am _).mono ?_;unfold Aj;rintro e w2 ⟨rfl,rfl⟩)|(refine (BW (by simp only [Bool.or_eq_false_iff,beq_eq_false_iff_ne,ne_eq];omega) _).mono ?_;unfold Aj;rintro e w2 ⟨rfl,rfl⟩));refine HP.out HG.out _ ?_
    rfl
theorem Uu(k n u:Int)(un:Nm)(ia:Option Addr)(ic l:Nat)(ma:Option Addr)(mc m:Nat)(X:Nat)(Q:Exit→Act→World→Prop)(W:World)(hX:W.heap[X]?=some (.cells #[int i64 k,int i64 n,sv un,int i64 u,.slice ia l ic,.slice ma m mc] 48 (0,0)))(b:Bool)(C:∀V,Below W.heap.size W V→Calls Tryz.prog 22 #[.slice ia l ic] V (ExP b V))(ms:List Mov)(ks:List Int)(hB:ms.length=m)(hC:ms=[]∨ma=some ⟨blk ma,off ma,none⟩)(hD:m≤maxLen)(hE:B8 W (blk ma) (off ma) ms)(hF:NsAt W (Aq (blk ma) (off ma) ms) ks)
  (hN:(D0 k n&&((decide (l=0)||(decide (k=2)||decide (k=3)))&&((decide (m=0)||decide (k=1))&&(ms.all BX&&b))))=true→∀(x5 x9 aa ab ac ae af ag ah ai aj ak al am an ao ap aq ar au av aw ax ay az aA aB aC aD aE aF aG aH aI aJ aK aL aM aN aO aP aQ aR aS aT aU aV aW aX aY aZ ba bb bc:Value) (V:World),Below W.heap.size W V→Q .normal { tmps:=#[e0,e1,e2,.pointer (some ⟨X,0,none⟩),e4,x5,e6,e7,e8,x9,aa,ab,ac,ae,af,ag,ah,ai,aj,ak,al,am,an,ao,ap,aq,ar,au,av,aw,ax,ay,az,aA,aB,aC,aD,aE,aF,aG,aH,aI,aJ,aK,aL,aM,aN,aO,aP,aQ,aR,aS,aT,aU,aV,aW,aX,aY,aZ,ba,bb,bc],defers:=[] } V)
  (hP:(D0 k n&&((decide (l=0)||(decide (k=2)||decide (k=3)))&&((decide (m=0)||decide (k=1))&&(ms.all BX&&b))))=false→∀(a:Act) (V:World),a.defers=[]→Below W.heap.size W V→Q (.panic BU) a V) :
  (Ab 1 Bz).wp Tryz.prog Q { tmps:=#[e0,e1,e2,.pointer (some ⟨X,0,none⟩),e4,e5,e6,e7,e8,e9,ea,eb,ec,ed,ee,ef,eg,eh,ei,ej,ek,el,em,en,eo,ep,eq,er,es,et,eu,ev,ew,ex,ey,ez,eA,eB,eC,eD,eE,eF,eG,eH,eI,eJ,eK,eL,eM,eN,eO,eP,eQ,eR,eS,eT,eU,eV,eW,eX,eY,eZ],defers:=[] } W:=by
 have y0:=Aa hX 0 rfl;have y1:=Aa hX 1 rfl;have HE:Hid (D0 k n=true→∀(y5 y9 y10 y11 y12 y13 y14 y15 y16 y17 y18 y19 y20 y21 y22 y23 y24 y25 y26 y27 y28 y29 y30 y31 y32 y33 y34 y35 y36 y37 y38 y39 y40 y41 y42 y43 y44 y45 y46 y47 y48 y49 y50 y51 y52 y53 y54 y55 y56 y57 y58 y59 y60 y61:Value),(Ab 2 Bz).wp Tryz.prog Q { tmps:=#[e0,e1,e2,.pointer (some ⟨X,0,none⟩),e4,y5,e6,e7,e8,y9,y10,y11,y12,y13,y14,y15,y16,y17,y18,y19,y20,y21,y22,y23,y24,y25,y26,y27,y28,y29,y30,y31,y32,y33,y34,y35,y36,y37,y38,y39,y40,y41,y42,y43,y44,y45,y46,y47,y48,y49,y50,y51,y52,y53,y54,y55,y56,y57,y58,y59,y60,y61],defers:=[] } W):=qh λh y5 y9 y10 y11 y12 y13 y14 y15 y16 y17 y18 y19 y20 y21 y22 y23 y24 y25 y26 y27 y28 y29 y30 y31 y32 y33 y34 y35 y36 y37 y38 y39 y40 y41 y42 y43 y44 y45 y46 y47 y48 y49 y50 y51 y52 y53 y54 y55 y56 y57 y58 y59 y60 y61=>Uv k n u un ia ic l ma mc m X Q W hX b C ms ks hB hC hD hE hF e0 e1 e2 e4 y5 e6 e7 e8 y9 y10 y11 y12 y13 y14 y15 y16 y17 y18 y19 y20 y21 y22 y23 y24 y25 y26 y27 y28 y29 y30 y31 y32 y33 y34 y35 y36 y37 y38 y39 y40 y41 y42 y43 y44 y45 y46 y47 y48 y49 y50 y51 y52 y53 y54 y55 y56 y57 y58 y59 y60 y61 (λh2=>hN (by rw [h,h2];rfl)) (λh2=>hP (by rw [h,h2];rfl))
 have HP:Hid (D0 k n=false→∀(a:Act),a.defers=[]→Q (.panic BU) a W):=qh λh a hd=>hP (by rw [h];rfl) a W hd (Below.refl _ _)
 clear hX hN hP C hB hC hD hE hF;change Code.wp Tryz.prog (.seq OW (Ab 2 Bz)) _ _ _;refine Ae (λK hK=>?_);have HK:=qh hK;clear hK
 conv=>arg 2;whnf
 by_cases hA:k=2
 ·have hg:D0 k n=inB n 1 64:=by unfold D0;rw [if_pos hA]
  obtain ⟨c,hc⟩:∃c,inB n 1 64=c:=⟨_,rfl⟩;rw [hc] at hg;have HG:=qh hg;have hG:=qh hc;clear hg hc
  cases c with
  | true =>
   go_wp2_with (first|(go_at_call 20;refine (BD _ _ _ _).mono ?_;rw [hG.out];rintro e w2 ⟨rfl,rfl⟩)|(go_at_call 19;first|(refine (Au _).mono ?_;rintro e w2 ⟨rfl,rfl⟩)|(refine (Am _).mono ?_;unfold Aj;rintro e w2 ⟨rfl,rfl⟩)|(refine (BW (by simp only [Bool.or_eq_false_iff,beq_eq_false_iff_ne,ne_eq];omega) _).mono ?_;unfold Aj;rintro e w2 ⟨rfl,rfl⟩)));refine HK.out _ _ ?_;exact HE.out HG.out _ _ _ _ _ _ _ _ _ _ _ _ _ _ _ _ _ _ _ _ _ _ _ _ _ _ _ _ _ _ _ _ _ _ _ _ _ _ _ _ _ _ _ _ _ _ _ _ _ _ _ _ _ _
  | false =>
   go_wp2_with (first|(go_at_call 20;refine (BD _ _ _ _).mono ?_;rw [hG.out];rintro e w2 ⟨rfl,rfl⟩)|(go_at_call 19;first|(refine (Au _).mono ?_;rintro e w2 ⟨rfl,rfl⟩)|(refine (Am _).mono ?_;unfold Aj;rintro e w2 ⟨rfl,rfl⟩)|(refine (BW (by simp only [Bool.or_eq_false_iff,beq_eq_false_iff_ne,ne_eq];omega) _).mono ?_;unfold Aj;rintro e w2 ⟨rfl,rfl⟩)));refine HP.out HG.out _ ?_
   rfl
 ·by_cases hH:n=0
  ·have hg:D0 k n=true:=by unfold D0;rw [if_neg hA,decide_eq_true hH]
   have HG:=qh hg;clear hg
   go_wp2_with (go_at_call 19;first|(refine (Au _).mono ?_;rintro e w2 ⟨rfl,rfl⟩)|(refine (Am _).mono ?_;unfold Aj;rintro e w2 ⟨rfl,rfl⟩)|(refine (BW (by simp only [beq_eq_false_iff_ne,ne_eq];omega) _).mono ?_;unfold Aj;rintro e w2 ⟨rfl,rfl⟩));refine HK.out _ _ ?_;exact HE.out HG.out _ _ _ _ _ _ _ _ _ _ _ _ _ _ _ _ _ _ _ _ _ _ _ _ _ _ _ _ _ _ _ _ _ _ _ _ _ _ _ _ _ _ _ _ _ _ _ _ _ _ _ _ _ _
  ·have hg:D0 k n=false:=by unfold D0;rw [if_neg hA,decide_eq_false hH]
   have HG:=qh hg;clear hg
   go_wp2_with (go_at_call 19;first|(refine (Au _).mono ?_;rintro e w2 ⟨rfl,rfl⟩)|(refine (Am _).mono ?_;unfold Aj;rintro e w2 ⟨rfl,rfl⟩)|(refine (BW (by simp only [beq_eq_false_iff_ne,ne_eq];omega) _).mono ?_;unfold Aj;rintro e w2 ⟨rfl,rfl⟩));refine HP.out HG.out _ ?_
   rfl
theorem J6(T:Lt)(hI:∀T':Lt,T'.size<T.size→∀(ia:Option Addr) (ic:Nat) (ns:List Int) (W:World),(T'.len=0∨ia=some ⟨blk ia,off ia,none⟩)→T'.len≤maxLen→T'.At W (blk ia) (off ia)→NsAt W (T'.refsL (blk ia) (off ia)) ns→Calls Tryz.prog 22 #[.slice ia T'.len ic] W (ExP T'.strip.exB W))
  (ia:Option Addr) (ic:Nat) (ns:List Int) (W:World) (hf:T.len=0∨ia=some ⟨blk ia,off ia,none⟩) (hl:T.len≤maxLen) (hT:T.At W (blk ia) (off ia)) (hN:NsAt W (T.refsL (blk ia) (off ia)) ns):Calls Tryz.prog 22 #[.slice ia T.len ic] W (ExP T.strip.exB W):=by
 have HI:=qh hI;have HT:=qh hT;have HF:=qh hf;have hU:=qh hN;clear hI hT hf hN;generalize hn:T.len=m at *;have HN:=qh hn;clear hn;unfold maxLen at hl;go_enter Tryz.func22,Tryz.ntmps22;go_wp2_with fail;go_loopw [8] (λiv wr=>∃(i:Nat) (R:Lt) (ks:List Int),iv=int i64 i∧i+R.len=m∧Hid (R.size≤T.size)∧Hid (T.strip.exB=R.strip.exB)∧Hid (R.At wr (blk ia) (off ia+i*6))∧Hid (NsAt wr (R.refsL (blk ia) (off ia+i*6)) ks)∧Hid (Below W.heap.size W wr)) (λiv _=>m+1-(intOf iv).toNat)
 case atStart=>exact ⟨0,T,ns,rfl,by rw [HN.out];omega,qh (qn _),qh rfl,by simpa [Hid] using HT.out,by simpa [Hid] using hU.out,qh (Below.refl _ _)⟩
 case round =>
  obtain ⟨i,R,ks,rfl,hF,hG,hH,hR,hK,hB⟩:=hrel
  cases R with
  | nil =>
   simp only [Lt.len,Nat.add_zero] at hF;subst hF;go_wp2_with fail;go_end0;exact ⟨Or.inl ⟨hH.out,rfl⟩,hB.out⟩
  | cons k n un ja jc its ma mc ms r =>
   simp only [Lt.len] at hF;have hi:(i:Int)<(m:Int):=by omega
   have e:=HF.out.resolve_left (by omega);obtain ⟨u,g0,g1,g2,g3,g4,g5,m1,m2,m3,hJ,k1,k2,k3⟩:=Lt.At.cells hR.out hK.out;obtain ⟨_,⟨f1,f2,f3⟩,⟨i1,i2,i3⟩,hr⟩:=hR.out;have hL:its.size<T.size:=by have:=hG.out;simp only [Lt.size] at this;omega
   have hA:r.size≤T.size:=by have:=hG.out;simp only [Lt.size] at this;omega
   obtain ⟨W2,hM,gW2,bW2,sW2⟩:=Ag wr #[int i64 k,int i64 n,sv un,int i64 u,.slice ja its.len jc,.slice ma ms.length mc] 48;have C:=λ(V:World) (hv:Below W2.heap.size W2 V)=>HI.out its hL ja jc m2 V i1 i2 (i3.below (Ad bW2 hv)) (k2.below (Ad bW2 hv))
   have hx:T.strip.exB=(D0 k n&&((decide (its.len=0)||(decide (k=2)||decide (k=3)))&&((decide (ms.length=0)||decide (k=1))&&((ms.all BX&&its.strip.exB)&&r.strip.exB)))):=by
    rw [hH.out];simp only [Lt.strip,Its.exB,Lt.strip_len]
   have HC:=qh C;have HX:=qh hx;have hV:=qh gW2;have hO:=qh bW2;have hW:=qh hM;have hD:=qh (And.intro f1 (And.intro f2 (And.intro (C6 f3 bW2) (k1.below bW2))))
   have HR:Hid (r.At wr (blk ia) (off ia+(i+1)*6)∧NsAt wr (r.refsL (blk ia) (off ia+(i+1)*6)) m3):=qh (by
    rw [show off ia+(i+1)*6=off ia+i*6+6 by omega]
    exact ⟨hr,k3⟩)
   have hC:(#[int i64 k,int i64 n,sv un,int i64 u,.slice ja its.len jc,.slice ma ms.length mc]:Array Value).all (·.oneCell')=true:=by simp [Value.oneCell']
   have hX:=qh hC;have hY:=qh hA;clear C hx gW2 bW2 sW2 hM f1 f2 f3 i1 i2 i3 hr hL k1 k2 k3 hJ hR hK hH hG hC hA;generalize hZ:blk ia=bb at *;generalize ha:off ia=oo at *;subst e;clear hZ ha HF;refine Ae (λK1 hK=>?_);have hP:=qh hK;clear hK;go_wp2_with fail;refine hP.out _ _ ?_;clear hP K1;refine Ae (λK2 hK=>?_);have hQ:=qh hK;clear hK;go_wp2_with fail;refine hQ.out _ _ ?_;clear hQ K2;refine Ae (λK3 hK=>?_);have hb:=qh hK;clear hK;refine wp_block ?_;refine Ae (λK4 hK=>?_);have hS:=qh hK;clear hK;go_wp2_with fail;refine hS.out _ _ ?_;clear hS K4;rw [hW.out];change Code.wp Tryz.prog (Ab 1 Bz) _ _ _;refine Uu k n u un ja jc its.len ma mc ms.length wr.heap.size _ W2 hV.out its.strip.exB HC.out ms m1 rfl hD.out.1 hD.out.2.1 hD.out.2.2.1 hD.out.2.2.2 (λhc=>?_) (λhc=>?_)
   ·intros
    rename_i V hv;refine hb.out _ _ ?_
    have hE:T.strip.exB=r.strip.exB:=by
     rw [HX.out];simp only [Bool.and_eq_true] at hc;obtain ⟨h1,h2,h3,h4⟩:=hc;rw [h1,h2,h3,h4.1,h4.2]
     rfl
    have he:=qh hE;have HV:=qh (Ad hO.out hv);clear hE hv hc HX;go_wp2_with fail;go_roundw
    case rel=>exact ⟨i+1,r,m3,by go_num,by omega,hY,he,qh (HR.out.1.below HV.out),qh (HR.out.2.below HV.out),qh (Ad hB.out HV.out)⟩
    case measure=>simp [intOf];omega
   ·intro a V hd hv
    have hE:T.strip.exB=false:=by
     rw [HX.out];generalize its.strip.exB=q1 at hc;generalize r.strip.exB=q2;generalize D0 k n=q3 at hc;generalize (decide (its.len=0)||(decide (k=2)||decide (k=3)))=q4 at hc;generalize (decide (ms.length=0)||decide (k=1))=q5 at hc;generalize ms.all BX=q6 at hc
     revert hc
     cases q1<;>cases q2<;>cases q3<;>cases q4<;>cases q5<;>cases q6<;>decide
    exact ⟨hd,Or.inr ⟨hE,rfl⟩,Ad hB.out (Ad hO.out hv)⟩
theorem P7:∀(s:Nat) (T:Lt),T.size≤s→∀(ia:Option Addr) (ic:Nat) (ns:List Int) (W:World),(T.len=0∨ia=some ⟨blk ia,off ia,none⟩)→T.len≤maxLen→T.At W (blk ia) (off ia)→NsAt W (T.refsL (blk ia) (off ia)) ns→Calls Tryz.prog 22 #[.slice ia T.len ic] W (ExP T.strip.exB W):=by
 intro s
 induction s with
 | zero=>intro T hs;exact J6 T (λT' hA=>absurd hA (by omega))
 | succ s ih=>intro T hs;exact J6 T (λT' hA=>ih T' (by omega))
theorem RB(k:Int)(N I G i n c m:Nat)(ks:List Int)(W:World)(hB:i<n)(_hn:n≤maxLen)(hN:W.heap[N]?=some (.cells #[.slice (some ⟨G,0,none⟩) n c] 92 (0,0)))(hI:W.heap[I]?=some (.cells #[int i64 i] 3 (0,0)))(hG:W.cell? ⟨G,i,none⟩=some (.map (some m)))(hS:SetB W m ks) :
  Calls Tryz.prog 42 #[int i64 k,.pointer (some ⟨N,0,none⟩),.pointer (some ⟨I,0,none⟩)] W λe W'=>e=.returned (.tuple #[])∧SetB W' m (B9 ks k)∧W.grownBy W' (some m)∧W'.heap.size=W.heap.size:=by
 obtain ⟨W',hA,h1,h2,h3,h4⟩:=hS.put (P:=Tryz.prog) (T:=93) Tryz.underlying93 Tryz.underlying3 k;have y0:=Aa hN 0 rfl;have y1:=Aa hI 0 rfl;unfold maxLen at _hn;have HS:Hid (SetB W' m (B9 ks k)):=qh h1;have HG:Hid (W.grownBy W' (some m)):=qh ⟨(h4 0 (Nat.zero_le _)).os,(h4 0 (Nat.zero_le _)).tape,(h4 0 (Nat.zero_le _)).output,Nat.le_of_eq h3.symm,λc _ hc=>h2 c (λe=>hc (by rw [e]))⟩;have HZ:=qh h3;clear h1 h2 h3 h4 hN hI hS;have hi:(i:Int)<(n:Int):=by omega
 go_enter Tryz.func42,Tryz.ntmps42;go_wp2_with fail;go_end0;exact ⟨rfl,HS.out,HG.out,HZ.out⟩
def Its.uses(f:Nm→Int):Its→List Int
 | .nil=>[]
 | .cons k _ un its _ r=>(if k=4 then [f un] else [])++(its.uses f++r.uses f)
def NumAt(f:Nm→Int)(w:World)(xs:List RefL):Prop:=∀x∈xs,∃n,w.cell? ⟨x.b,x.o+1,none⟩=some (int i64 n)∧(x.to=2→n=f x.nm)
theorem NumAt.ns{f:Nm→Int}{w:World}:∀{xs:List RefL},NumAt f w xs→∃ns,NsAt w xs ns
 | [],_=>⟨[],trivial⟩
 | x::xs,h=>by
  obtain ⟨n,h1,_⟩:=h x (by simp);obtain ⟨ns,h2⟩:=NumAt.ns (xs:=xs) (λy hy=>h y (by simp [hy]));exact ⟨n::ns,h1,h2⟩
def EI(w:World)(m:Nat):Prop:=∃es c,w.heap[m]?=some (.map es c)
theorem SetB.isMap{w:World}{m:Nat}{ks:List Int}(h:SetB w m ks):EI w m:=by
 obtain ⟨es,c,h1,_⟩:=h.stamp;exact ⟨es,c,h1⟩
theorem Kk{w:World}{a:Addr}{v:Value}{m:Nat}(h:w.cell? a=some v)(hm:EI w m):a.block≠m:=by
 rintro rfl;obtain ⟨es,c,h1⟩:=hm;unfold World.cell? at h;rw [h1] at h;cases h
theorem BQ{w w':World}{a:Addr}{v:Value}{m:Nat}(h:w.cell? a=some v)(hm:EI w m)(hg:w.grownBy w' (some m)):w'.cell? a=some v:=by
 have:=hg.block a.block (D4 h) (λe=>Kk h hm (by cases e;rfl));rw [← h];unfold World.cell?;rw [this]
theorem Cy{w w':World}{b m:Nat}{cs:Array Value}{t:TypeId}(h:w.heap[b]?=some (.cells cs t (0,0)))(hm:EI w m)(hg:w.grownBy w' (some m)):w'.heap[b]?=some (.cells cs t (0,0)) :=
 (hg.block b (qs.1 h).1 (λe=>by cases e;obtain ⟨es,c,h1⟩:=hm;rw [h1] at h;cases h)).trans h
theorem NumAt.grown{f:Nm→Int}{w w':World}{xs:List RefL}{m:Nat}(h:NumAt f w xs)(hm:EI w m)(hg:w.grownBy w' (some m)):NumAt f w' xs:=λx hx=>by
 obtain ⟨n,h1,h2⟩:=h x hx;exact ⟨n,BQ h1 hm hg,h2⟩
theorem NumAt.below{f:Nm→Int}{w w':World}{xs:List RefL}(h:NumAt f w xs)(hb:Below w.heap.size w w'):NumAt f w' xs:=λx hx=>by
 obtain ⟨n,h1,h2⟩:=h x hx;exact ⟨n,Ac hb h1,h2⟩
theorem Lt.At.grown{w w':World}{T:Lt}{b o m:Nat}(h:T.At w b o)(hm:EI w m)(hg:w.grownBy w' (some m)):T.At w' b o :=
 h.kept (λ_ _ _ h=>BQ h hm hg) (λ_ _ _ _ h=>BQ h hm hg)
structure RingC(W:World)(N I G i n c m:Nat)(ks:List Int):Prop where
 box:W.heap[N]?=some (.cells #[.slice (some ⟨G,0,none⟩) n c] 92 (0,0))
 idx:W.heap[I]?=some (.cells #[int i64 i] 3 (0,0))
 at_:W.cell? ⟨G,i,none⟩=some (.map (some m))
 set_:SetB W m ks
theorem RingC.kept{W W':World}{N I G i n c m:Nat}{ks ks':List Int}(h:RingC W N I G i n c m ks)(hg:W.grownBy W' (some m))(hs:SetB W' m ks'):RingC W' N I G i n c m ks' :=
 ⟨Cy h.box h.set_.isMap hg,Cy h.idx h.set_.isMap hg,BQ h.at_ h.set_.isMap hg,hs⟩
theorem RingC.below{W W':World}{N I G i n c m:Nat}{ks:List Int}(h:RingC W N I G i n c m ks)(hb:Below W.heap.size W W'):RingC W' N I G i n c m ks :=
 ⟨Ah hb h.box,Ah hb h.idx,Ac hb h.at_,h.set_.below hb h.set_.lt⟩
theorem PW(k:Int){N I G i n c m:Nat}{ks:List Int}{W:World}(hA:i<n)(hn:n≤maxLen)(h:RingC W N I G i n c m ks) :
  Calls Tryz.prog 42 #[int i64 k,.pointer (some ⟨N,0,none⟩),.pointer (some ⟨I,0,none⟩)] W λe W'=>e=.returned (.tuple #[])∧RingC W' N I G i n c m (B9 ks k)∧W.grownBy W' (some m)∧W'.heap.size=W.heap.size :=
 (RB k N I G i n c m ks W hA hn h.box h.idx h.at_ h.set_).mono λ_ _ ⟨h1,h2,h3,h4⟩=>⟨h1,h.kept h3 h2,h3,h4⟩
abbrev Pw(N I:Nat):Value:=.func (.func 42) #[] #[.pointer (some ⟨N,0,none⟩),.pointer (some ⟨I,0,none⟩)]
def SE(f:Nm→Int)(T:Lt)(N I G i n c m:Nat)(ks:List Int)(W:World)(e:Ending)(W':World):Prop:=e=.returned (.tuple #[])∧RingC W' N I G i n c m ((T.strip.uses f).foldl B9 ks)∧W.grownBy W' (some m)
theorem NumAt.mov{f:Nm→Int}{w:World}{k n:Int}{un:Nm}{ia:Option Addr}{ic:Nat}{its:Lt}{ma:Option Addr}{mc:Nat}{ms:List Mov}{r:Lt}{b o:Nat}(h:NumAt f w ((Lt.cons k n un ia ic its ma mc ms r).refsL b o)) :
  (∃u,w.cell? ⟨b,o+3,none⟩=some (int i64 u)∧(k=4→u=f un))∧NumAt f w (Aq (blk ma) (off ma) ms)∧NumAt f w (its.refsL (blk ia) (off ia))∧NumAt f w (r.refsL b (o+6)):=by
 refine ⟨?_,λx hx=>h x (by simp [Lt.refsL,hx]),λx hx=>h x (by simp [Lt.refsL,hx]),λx hx=>h x (by simp [Lt.refsL,hx])⟩;obtain ⟨u,h1,h2⟩:=h ⟨b,o+2,BE k,un⟩ (by simp [Lt.refsL]);exact ⟨u,h1,λhk=>h2 (by simp [BE,hk])⟩
theorem D7{w w2 w':World}{m:Nat}(hb:Below w.heap.size w w2)(hg:w2.grownBy w' (some m)):w.grownBy w' (some m) :=
 ⟨hg.os.trans hb.os,hg.tape.trans hb.tape,hg.output.trans hb.output,Nat.le_trans hb.size hg.size,λk hk hn=>(hg.block k (Nat.lt_of_lt_of_le hk hb.size) hn).trans (hb.block k hk)⟩
theorem Bu{w w2 w':World}{m:Nat}(hb:w.grownBy w2 (some m))(hg:w2.grownBy w' (some m)):w.grownBy w' (some m) :=
 ⟨hg.os.trans hb.os,hg.tape.trans hb.tape,hg.output.trans hb.output,Nat.le_trans hb.size hg.size,λk hk hn=>(hg.block k (Nat.lt_of_lt_of_le hk hb.size) hn).trans (hb.block k hk hn)⟩
theorem JE(f:Nm→Int)(N I G i n c m:Nat)(hD:i<n)(hn:n≤maxLen)(T:Lt)
  (hI:∀T':Lt,T'.size<T.size→∀(ia:Option Addr) (ic:Nat) (ks:List Int) (W:World),(T'.len=0∨ia=some ⟨blk ia,off ia,none⟩)→T'.len≤maxLen→T'.At W (blk ia) (off ia)→NumAt f W (T'.refsL (blk ia) (off ia))→RingC W N I G i n c m ks→Calls Tryz.prog 41 #[.slice ia T'.len ic,Pw N I] W (SE f T' N I G i n c m ks W))
  (ia:Option Addr) (ic:Nat) (ks:List Int) (W:World) (hf:T.len=0∨ia=some ⟨blk ia,off ia,none⟩) (hl:T.len≤maxLen) (hT:T.At W (blk ia) (off ia)) (hU:NumAt f W (T.refsL (blk ia) (off ia))) (hC:RingC W N I G i n c m ks):Calls Tryz.prog 41 #[.slice ia T.len ic,Pw N I] W (SE f T N I G i n c m ks W):=by
 have HI:=qh hI;have HT:=qh hT;have HF:=qh hf;have HU:=qh hU;have HC:=qh hC;have CP:=λ(k:Int) (ks:List Int) (V:World) (h:RingC V N I G i n c m ks)=>PW k hD hn h
 have hg:=qh CP;clear hI hT hf hU hC CP;generalize hm:T.len=q at *;have HM:=qh hm;clear hm;unfold maxLen at hl;go_enter Tryz.func41,Tryz.ntmps41;go_wp2_with fail;go_loopw [8] (λiv wr=>∃(j:Nat) (R:Lt) (us:List Int),iv=int i64 j∧j+R.len=q∧Hid (R.size≤T.size)∧Hid ((T.strip.uses f).foldl B9 ks=(R.strip.uses f).foldl B9 us)∧Hid (R.At wr (blk ia) (off ia+j*6))∧Hid (NumAt f wr (R.refsL (blk ia) (off ia+j*6)))∧Hid (RingC wr N I G i n c m us)∧Hid (W.grownBy wr (some m))) (λiv _=>q+1-(intOf iv).toNat)
 case atStart=>exact ⟨0,T,ks,rfl,by rw [HM.out];omega,qh (qn _),qh rfl,by simpa [Hid] using HT.out,by simpa [Hid] using HU.out,HC,qh (World.grownBy.refl _ _)⟩
 case round =>
  obtain ⟨j,R,us,rfl,hD,hL,hM,hR,hK,hC,hB⟩:=hrel
  cases R with
  | nil =>
   simp only [Lt.len,Nat.add_zero] at hD;subst hD;go_wp2_with fail;go_end0;refine ⟨rfl,?_,hB.out⟩;rw [hM.out];exact hC.out
  | cons kk nn un ja jc its ma mc ms r =>
   simp only [Lt.len] at hD;have hi:(j:Int)<(q:Int):=by omega
   have e:=HF.out.resolve_left (by omega);obtain ⟨⟨u,g3,hu⟩,_,k2,k3⟩:=hK.out.mov;obtain ⟨⟨g0,g1,g2,g4,g5⟩,_,⟨i1,i2,i3⟩,hr⟩:=hR.out;have hW:its.size<T.size:=by have:=hL.out;simp only [Lt.size] at this;omega
   have hE:r.size≤T.size:=by have:=hL.out;simp only [Lt.size] at this;omega
   obtain ⟨W2,hs,gW2,bW2,sW2⟩:=Ag wr #[int i64 kk,int i64 nn,sv un,int i64 u,.slice ja its.len jc,.slice ma ms.length mc] 48;have hN:=hC.out.below bW2;have hh:=hB.out;have hH:=hN.set_.isMap;have hX:=hC.out.set_.isMap
   -- the call of itself,from whatever world behind the box
   have C:=λ(V:World) (us:List Int) (hv:W2.grownBy V (some m)) (hc:RingC V N I G i n c m us)=>HI.out its hW ja jc us V i1 i2 ((i3.below bW2).grown hH hv) ((k2.below bW2).grown hH hv) hc
   have hY:=qh C
   have hx:(T.strip.uses f).foldl B9 ks=(r.strip.uses f).foldl B9 ((its.strip.uses f).foldl B9 ((if kk=4 then [f un] else []).foldl B9 us)):=by
    rw [hM.out];simp only [Lt.strip,Its.uses,List.foldl_append]
   have HX:=qh hx
   have HR:Hid (r.At wr (blk ia) (off ia+(j+1)*6)∧NumAt f wr (r.refsL (blk ia) (off ia+(j+1)*6))):=qh (by
    rw [show off ia+(j+1)*6=off ia+j*6+6 by omega]
    exact ⟨hr,k3⟩)
   have y0:=Aa gW2 0 rfl;have y3:=Aa gW2 3 rfl;have y4:=Aa gW2 4 rfl;have ht:=qh gW2;have hZ:=qh bW2;have ha:=qh hN;have hj:=qh hH;have hb:=qh hE;have hJ:=qh hX;clear C hx gW2 bW2 sW2 i1 i2 i3 hr hW k2 k3 hR hK hM hL hE hN hH hX hh hC;generalize hk:blk ia=bb at *;generalize ho:off ia=oo at *;subst e;clear hk ho HF;by_cases h4:kk=4
   ·subst h4
    have hO:=hu rfl;have hw:=qh hO;have hP:Hid ((T.strip.uses f).foldl B9 ks=(r.strip.uses f).foldl B9 ((its.strip.uses f).foldl B9 (B9 us u))):=qh (by rw [HX.out,if_pos rfl,← hO];rfl);clear hO hu
    go_wp2_with (first
     | (go_at_call 42;refine (hg.out _ _ _ ha.out).mono ?_;rintro e V ⟨rfl,hd,hQ,hp⟩;have hq:=qh hd;have he:=qh hQ;have z4:=BQ y4 hj.out hQ;clear hd hQ hp)
     | (go_at_call 41;refine (hY.out _ _ he.out hq.out).mono ?_;rintro e V2 ⟨rfl,hF,hG⟩;have hS:=qh hF;have hV:=qh hG;clear hF hG))
    have hA:=D7 hZ.out (Bu he.out hV.out);go_roundw
    case rel=>exact ⟨j+1,r,_,by go_num,by omega,hb,hP,qh (HR.out.1.grown hJ.out hA),qh (HR.out.2.grown hJ.out hA),hS,qh (Bu hB.out hA)⟩
    case measure=>simp [intOf];omega
   ·have hP:Hid ((T.strip.uses f).foldl B9 ks=(r.strip.uses f).foldl B9 ((its.strip.uses f).foldl B9 us)):=qh (by rw [HX.out,if_neg h4];rfl)
    clear hu
    go_wp2_with (first
     | (go_at_call 41;refine (hY.out _ _ (World.grownBy.refl _ _) ha.out).mono ?_;rintro e V2 ⟨rfl,hF,hG⟩;have hS:=qh hF;have hV:=qh hG;clear hF hG))
    have hA:=D7 hZ.out hV.out;go_roundw
    case rel=>exact ⟨j+1,r,_,by go_num,by omega,hb,hP,qh (HR.out.1.grown hJ.out hA),qh (HR.out.2.grown hJ.out hA),hS,qh (Bu hB.out hA)⟩
    case measure=>simp [intOf];omega
theorem QG(f:Nm→Int)(N I G i n c m:Nat)(hA:i<n)(hn:n≤maxLen):∀(s:Nat) (T:Lt),T.size≤s→∀(ia:Option Addr) (ic:Nat) (ks:List Int) (W:World),(T.len=0∨ia=some ⟨blk ia,off ia,none⟩)→T.len≤maxLen→T.At W (blk ia) (off ia)→NumAt f W (T.refsL (blk ia) (off ia))→RingC W N I G i n c m ks→Calls Tryz.prog 41 #[.slice ia T.len ic,Pw N I] W (SE f T N I G i n c m ks W):=by
 intro s
 induction s with
 | zero=>intro T hs;exact JE f N I G i n c m hA hn T (λT' hB=>absurd hB (by omega))
 | succ s ih=>intro T hs;exact JE f N I G i n c m hA hn T (λT' hB=>ih T' (by omega))
theorem R8:(Tryz.prog.info? 93).map (λi=>(i.zero,i.size,i.bytes))=some (some (.map none),1,8):=by kernel_rfl
theorem LO(v:Value)(n:Nat):madeCells #[v] n=(List.replicate n v).toArray:=by
 unfold madeCells;apply Array.ext
 ·simp
 ·intro j h1 h2
  simp [Nat.mod_one]
theorem No(m:Nat)(hm:m≤1000)(w:World):(Instr.makeSlice 92 (int i64 m) (int i64 m)).run Tryz.prog w=.ok (.slice (some ⟨w.heap.size,0,none⟩) m m) (w.alloc (.cells (Array.replicate m (.map none)) 93)):=by
 obtain ⟨i,h1,h2,h3,h4⟩:=info_parts R8;have h:=run_make (P:=Tryz.prog) w 92 93 i (.map none) Tryz.underlying92 h1 h2 .i64 .i64 m m (by omega) (Int.le_refl _) (by rw [h4];omega) (by omega);rw [h,h3];simp [Value.cells,LO]
def FW(n:Nat)(ms:List Nat):Array Value:=((List.range n).map λj=>Value.map ms[j]?).toArray
theorem NI(n:Nat):Array.replicate n (Value.map none)=FW n []:=by
 unfold FW;apply Array.ext
 ·simp
 ·intro j h1 h2
  simp
theorem Eb{n:Nat}(ms:List Nat){j:Nat}(h:j<n):(FW n ms)[j]?=some (.map ms[j]?):=by
 unfold FW;simp [h]
theorem FX(n:Nat)(ms:List Nat):(FW n ms).size=n:=by simp [FW]
theorem NH(n:Nat)(ms:List Nat)(m:Nat)(h:ms.length<n):(FW n ms).setIfInBounds ms.length (.map (some m))=FW n (ms++[m]):=by
 apply Array.ext
 ·simp [FX]
 ·intro j h1 h2
  have hj:j<n:=by simpa [FX] using h2
  have e2:(FW n (ms++[m]))[j]?=some (.map (ms++[m])[j]?):=Eb _ hj
  have e1:((FW n ms).setIfInBounds ms.length (.map (some m)))[j]?=some (.map (ms++[m])[j]?):=by
   rw [Array.getElem?_setIfInBounds];by_cases he:ms.length=j
   ·rw [if_pos he,if_pos (by rw [FX];omega)]
    subst he;simp
   ·rw [if_neg he,Eb ms hj]
    rcases Nat.lt_or_ge j ms.length with h3|h3
    ·rw [List.getElem?_append_left h3]
    ·rw [List.getElem?_append_right h3,List.getElem?_eq_none h3,List.getElem?_eq_none (by simp;omega)]
  rw [Array.getElem?_eq_getElem h1] at e1;rw [Array.getElem?_eq_getElem h2] at e2;exact Option.some.inj (e1.trans e2.symm)
structure RgS(s:Ls)(f:Nm→Int)(B:Nat)(W:World):Prop where
 at_:s.At W
 box:W.heap[B]?=some (.cells s.cells 30 (0,0))
 nums:NumAt f W (Aw s.phrases)
theorem RgS.below{s:Ls}{f:Nm→Int}{B:Nat}{W W':World}(h:RgS s f B W)(hb:Below W.heap.size W W'):RgS s f B W':=⟨h.at_.below hb,Ah hb h.box,h.nums.below hb⟩
def Ls.nexts(s:Ls)(f:Nm→Int):List (List Int):=s.phrases.map λp=>(p.its.strip.uses f).foldl B9 []
structure NextW(w W:World)(N G n:Nat)(kss:List (List Int))(ms:List Nat):Prop where
 below:Below w.heap.size w W
 lowN:w.heap.size≤N
 lowG:w.heap.size≤G
 box:W.heap[N]?=some (.cells #[.slice (some ⟨G,0,none⟩) n n] 92 (0,0))
 row:W.heap[G]?=some (.cells (FW n ms) 93 (0,0))
 len:ms.length≤n
 low:∀m∈ms,w.heap.size≤m
 sets:∀(j m:Nat) (ks:List Int),ms[j]?=some m→kss[j]?=some ks→SetB W m ks
 apart:ms.Nodup
theorem NextW.keep{w W W':World}{N G n:Nat}{kss:List (List Int)}{ms:List Nat}(h:NextW w W N G n kss ms)(hb:Below W.heap.size W W'):NextW w W' N G n kss ms :=
 ⟨Ad h.below hb,h.lowN,h.lowG,Ah hb h.box,Ah hb h.row,h.len,h.low,λj m ks h1 h2=>(h.sets j m ks h1 h2).below hb (h.sets j m ks h1 h2).lt,h.apart⟩
theorem BN{W:World}{G i:Nat}{cs:Array Value}{t:TypeId}(v:Value)(h:W.heap[G]?=some (.cells cs t (0,0))):(W.setCell ⟨G,i,none⟩ v).heap[G]?=some (.cells (cs.setIfInBounds i v) t (0,0)):=by
 simp only [World.setCell,Array.getElem?_modify,h,if_true,Option.map_some]
 rfl
theorem Ak{W:World}{G i c:Nat}(v:Value)(h:c≠G):(W.setCell ⟨G,i,none⟩ v).heap[c]?=W.heap[c]?:=by
 simp only [World.setCell,Array.getElem?_modify];rw [if_neg (λe=>h e.symm)]
theorem Fv{W:World}(a:Addr)(v:Value):(W.setCell a v).heap.size=W.heap.size:=by simp [World.setCell]
theorem PK{W:World}{G:Nat}{cs:Array Value}{t:TypeId}(h:W.heap[G]?=some (.cells cs t (0,0))){m:Nat}(hm:EI W m):m≠G:=by
 rintro rfl;obtain ⟨es,c,h1⟩:=hm;rw [h] at h1;cases h1
theorem NextW.lay{w wr W2 W3 W4:World}{N G n:Nat}{kss:List (List Int)}{ms:List Nat}(h:NextW w wr N G n kss ms)(hb:Below wr.heap.size wr W2)(h3:W2.alloc (.map #[] 0)=W3)(h4:W3.setCell ⟨G,ms.length,none⟩ (.map (some W2.heap.size))=W4)(hC:ms.length<n) :
  Below w.heap.size w W4∧W4.heap[G]?=some (.cells (FW n (ms++[W2.heap.size])) 93 (0,0))∧W4.heap[N]?=some (.cells #[.slice (some ⟨G,0,none⟩) n n] 92 (0,0))∧SetB W4 W2.heap.size []∧(∀c,c<W2.heap.size→c≠G→W4.heap[c]?=W2.heap[c]?)∧W4.heap.size=W2.heap.size+1:=by
 have b3:Below W2.heap.size W2 W3:=by rw [← h3];exact (Below.refl _ _).alloc (qn _) _
 have hB:=Ah hb h.row;have hA:=Ah hb h.box
 have hD:N≠G:=by
  rintro e;rw [e] at hA;rw [hB] at hA;injection hA with e1;injection e1 with e1 e2;cases e2
 have hE:=Ah b3 hB;have hH:G<W2.heap.size:=(qs.1 hB).1;have hF:=Ad h.below hb;have hG:SetB W3 W2.heap.size []:=by rw [← h3];exact SetB.new W2
 refine ⟨?_,?_,?_,?_,λc h1 h2=>?_,?_⟩
 ·rw [← h4]
  exact (Ad hF b3).setCell (p:=⟨G,ms.length,none⟩) h.lowG _
 ·rw [← h4,BN _ hE,NH n ms _ hC]
 ·rw [← h4,Ak _ hD];exact Ah b3 hA
 ·refine hG.of_block ?_
  rw [← h4,Ak _ (by omega)]
 ·rw [← h4,Ak _ h2];exact b3.block c h1
 ·rw [← h4,Fv,← h3];simp
theorem NextW.step{w wr W2 W4 V:World}{N G n:Nat}{kss:List (List Int)}{ms:List Nat}{ks:List Int}(h:NextW w wr N G n kss ms)(hb:Below wr.heap.size wr W2)(hJ:ms.length<n)
  (h4:Below w.heap.size w W4∧W4.heap[G]?=some (.cells (FW n (ms++[W2.heap.size])) 93 (0,0))∧W4.heap[N]?=some (.cells #[.slice (some ⟨G,0,none⟩) n n] 92 (0,0))∧SetB W4 W2.heap.size []∧(∀c,c<W2.heap.size→c≠G→W4.heap[c]?=W2.heap[c]?)∧W4.heap.size=W2.heap.size+1)
  (hg:W4.grownBy V (some W2.heap.size)) (hs:SetB V W2.heap.size ks) (hk:kss[ms.length]?=some ks):NextW w V N G n kss (ms++[W2.heap.size]):=by
 obtain ⟨q1,q2,q3,q4,q5,q6⟩:=h4;have hm:=q4.isMap;have hB:w.heap.size≤W2.heap.size:=Nat.le_trans h.below.size hb.size;refine ⟨q1.grown hg (by omega) (λk hk=>by cases hk;exact hB),h.lowN,h.lowG,Cy q3 hm hg,Cy q2 hm hg,by simp;omega,λm hA=>?_,λj m ks' h1 h2=>?_,?_⟩
 ·rcases List.mem_append.1 hA with hA|hA
  ·exact h.low m hA
  ·simp at hA;omega
 ·rcases Nat.lt_or_ge j ms.length with hj|hj
  ·rw [List.getElem?_append_left hj] at h1
   have hC:=h.sets j m ks' h1 h2;have hG:m≠G:=PK h.row hC.isMap;have hE:=hC.lt;have hH:=hb.block m hE;refine (hC.of_block hH).of_block ?_;have hD:m<W2.heap.size:=Nat.lt_of_lt_of_le hE hb.size;rw [hg.block m (by omega) (λe=>by cases e;omega),q5 m hD hG]
  ·have:j=ms.length:=by
    have:=(ql.1 h1).1;simp at this;omega
   subst this;rw [List.getElem?_append_right (qn _)] at h1;simp at h1;subst h1;rw [hk] at h2;cases h2;exact hs
 ·rw [List.nodup_append]
  refine ⟨h.apart,by simp,λa ha b hF=>?_⟩;simp at hF;subst hF;rintro rfl;obtain ⟨j,hj⟩:=List.getElem?_of_mem ha
  obtain ⟨ks',hI⟩:∃ks',kss[j]?=some ks':=⟨_,qg (by
   have:=(ql.1 hj).1;have:=(ql.1 hk).1
   omega)⟩
  have:=(h.sets j _ ks' hj hI).lt;have:=hb.size;omega
noncomputable def CF:Code:=(Tryz.f23.body).getD .skip
noncomputable def OU:Code:=qe 0 CF
noncomputable def OV:Code:=qe 1 CF
noncomputable def elem61n2:Code:=qe 2 CF
noncomputable def Kz:Code:=qe 3 CF
theorem RM:Ab 1 CF=.seq OV (Ab 2 CF):=rfl
theorem RN:Ab 2 CF=.seq elem61n2 (Ab 3 CF):=rfl
theorem RO:Ab 3 CF=.seq Kz (Ab 4 CF):=rfl
theorem Dr:∀{ps:List Ph} {i:Nat} {p:Ph} {x:RefL},ps[i]?=some p→x∈p.its.refsL (blk p.ia) (off p.ia)→x∈Aw ps
 | [],_,_,_,h,_=>by cases h
 | q::r,0,p,x,h,hx=>by cases h;exact List.mem_append.2 (Or.inl hx)
 | q::r,i+1,p,x,h,hx=>List.mem_append.2 (Or.inr (Dr (ps:=r) (i:=i) (by simpa using h) hx))
theorem UI(s:Ls)(f:Nm→Int)(B N G:Nat)(w W:World)(hs:RgS s f B w)(hn:s.phrases.length≤1000)(hW:NextW w W N G s.phrases.length (s.nexts f) [])(Q:Exit→Act→World→Prop)
  (hK:∀(ms:List Nat) (x4 x5 x6 x7 x8 x9 bP bQ bR bS bT bU bV bW bX bY bZ ca cb cc cd ce cf cg ch ci cj ck cm cn co cp cq cr cs ct cu cv cw cx cy cz cA cB cC cD cE cF cG cH cI cJ cK cL cM cN cO cP cQ cR cS cT cU cV cW cX cY cZ da db dc dd de df dg dh di dj dk dl dm dn dp dq dr ds dt du dv dw dx dy dz dA dB dC dD dE dF dG dH dI dJ dK dL dM dN dO dP dQ dR dS dT dU dV dW dX dY dZ fd fe ff fg fh fi fj fk fl fm fn fp fq fr fs ft fu fv fw fx fy fz fA fB fC fD fE fF:Value) (V:World),NextW w V N G s.phrases.length (s.nexts f) ms→ms.length=s.phrases.length→Q .normal { tmps:=#[e0,.pointer (some ⟨B,0,none⟩),e2,.pointer (some ⟨N,0,none⟩),x4,x5,x6,x7,x8,x9,bP,bQ,bR,bS,bT,bU,bV,bW,bX,bY,bZ,ca,cb,cc,cd,ce,cf,cg,ch,ci,cj,ck,cm,cn,co,cp,cq,cr,cs,ct,cu,cv,cw,cx,cy,cz,cA,cB,cC,cD,cE,cF,cG,cH,cI,cJ,cK,cL,cM,cN,cO,cP,cQ,cR,cS,cT,cU,cV,cW,cX,cY,cZ,da,db,dc,dd,de,df,dg,dh,di,dj,dk,dl,dm,dn,dp,dq,dr,ds,dt,du,dv,dw,dx,dy,dz,dA,dB,dC,dD,dE,dF,dG,dH,dI,dJ,dK,dL,dM,dN,dO,dP,dQ,dR,dS,dT,dU,dV,dW,dX,dY,dZ,fd,fe,ff,fg,fh,fi,fj,fk,fl,fm,fn,fp,fq,fr,fs,ft,fu,fv,fw,fx,fy,fz,fA,fB,fC,fD,fE,fF],defers:=[] } V) :
  elem61n2.wp Tryz.prog Q { tmps:=#[e0,.pointer (some ⟨B,0,none⟩),e2,.pointer (some ⟨N,0,none⟩),e4,e5,e6,e7,e8,e9,ea,eb,ec,ed,ee,ef,eg,eh,ei,ej,ek,el,em,en,eo,ep,eq,er,es,et,eu,ev,ew,ex,ey,ez,eA,eB,eC,eD,eE,eF,eG,eH,eI,eJ,eK,eL,eM,eN,eO,eP,eQ,eR,eS,eT,eU,eV,eW,eX,eY,eZ,aa,ab,ac,ae,af,ag,ah,ai,aj,ak,al,am,an,ao,ap,aq,ar,au,av,aw,ax,ay,az,aA,aB,aC,aD,aE,aF,aG,aH,aI,aJ,aK,aL,aM,aN,aO,aP,aQ,aR,aS,aT,aU,aV,aW,aX,aY,aZ,ba,bb,bc,bd,be,bf,bg,bh,bi,bj,bk,bl,bm,bn,bo,bp,bq,br,bs,bt,bu,bv,bw,bx,bz,bA,bB,bC,bD,bE,bF,bG,bH,bI,bJ,bK,bL,bM,bN,bO],defers:=[] } W:=by
 generalize hm:s.phrases.length=n at *;have y9:W.cell? ⟨B,10,none⟩=some (.slice s.fa s.phrases.length s.fc):=Aa (Ah hW.below hs.box) 10 rfl;rw [hm] at y9;have HS:=qh hs;have HW:=qh hW;have HK:=qh hK;have HM:=qh hm;clear hs hW hK hm
 conv=>arg 2;whnf
 go_wp2_with fail;go_loopw [27] (λiv wr=>∃(i:Nat) (ms:List Nat),iv=int i64 i∧i≤n∧Hid (ms.length=i)∧Hid (NextW w wr N G n (s.nexts f) ms)) (λiv _=>n+1-(intOf iv).toNat)
 case atStart=>exact ⟨0,[],rfl,Nat.zero_le _,qh rfl,HW⟩
 case round =>
  obtain ⟨i,ms,rfl,hv,hL,hA⟩:=hrel;by_cases hM:i<n
  ·have hi:(i:Int)<(n:Int):=by omega
   obtain ⟨p,hp⟩:∃p,s.phrases[i]?=some p:=⟨_,qg (by rw [HM.out];exact hM)⟩;have hS:=HS.out.below hA.out.below;obtain ⟨c0,c1⟩:=Cm hS.at_.phrases hp;have hh:=hS.at_.pform.resolve_left (λe=>by rw [e] at hp;cases hp);obtain ⟨hN,hO,hj⟩:=Df hS.at_.phrases hp;have hk:NumAt f wr (p.its.refsL (blk p.ia) (off p.ia)):=λx hx=>hS.nums x (Dr hp hx)
   unfold Ph.val at c1
   -- the worlds up to the call
   obtain ⟨W1,hP,gW1,bW1,sW1⟩:=Ag wr #[int i64 i] 3;obtain ⟨W2,hQ,gW2,bW2,sW2⟩:=Ag W1 #[sv p.name,.slice p.ia p.its.len p.ic] 51;obtain ⟨W3,hD⟩:∃W3,W2.alloc (.map #[] 0)=W3:=⟨_,rfl⟩;have hE:=Ad bW1 bW2;obtain ⟨W4,hF⟩:∃W4,W3.setCell ⟨G,i,none⟩ (.map (some W2.heap.size))=W4:=⟨_,rfl⟩;have hl:=hL.out;have hC:=hA.out.lay (W4:=W4) hE hD (by rw [hl];exact hF) (by omega);have hB:=λV ks=>hA.out.step (V:=V) (ks:=ks) hE (by omega) hC
   obtain ⟨q1,q2,q3,q4,q5,q6⟩:=id hC;have hG:(s.nexts f)[ms.length]?=some ((p.its.strip.uses f).foldl B9 []):=by unfold Ls.nexts;rw [hl,List.getElem?_map,hp];rfl
   -- facts of the worlds
   have z2N:W2.cell? ⟨N,0,none⟩=some (.slice (some ⟨G,0,none⟩) n n):=Aa (Ah hE hA.out.box) 0 rfl;have z2I:W2.cell? ⟨wr.heap.size,0,none⟩=some (int i64 i):=Aa (Ah bW2 gW1) 0 rfl;have b3:Below W2.heap.size W2 W3:=by rw [← hD];exact (Below.refl _ _).alloc (qn _) _
   have z3G:W3.frozen? ⟨G,i,none⟩=false:=(show FreeB W3 G from ⟨_,_,Ah b3 (Ah hE hA.out.row)⟩).free i
   have z3c:W3.cell? ⟨G,i,none⟩=some (.map none):=by
    have:=Aa (Ah b3 (Ah hE hA.out.row)) i (Eb ms hM)
    rwa [List.getElem?_eq_none (by rw [hl];exact qn _)] at this
   have hR:wr.heap.size≠G:=by have:=(qs.1 hA.out.row).1;omega
   have hT:W1.heap.size≠G:=by have:=(qs.1 hA.out.row).1;omega
   have gI4:W4.heap[wr.heap.size]?=some (.cells #[int i64 i] 3 (0,0)):=(q5 _ (by omega) hR).trans (Ah bW2 gW1);have gA4:=(q5 _ (by omega) hT).trans gW2;have z4A:W4.cell? ⟨W1.heap.size,1,none⟩=some (.slice p.ia p.its.len p.ic):=Aa gA4 1 rfl;have hU:RingC W4 N wr.heap.size G i n n W2.heap.size []:=⟨q3,gI4,by rw [Aa q2 i (Eb _ hM)];rw [← hl];simp,q4⟩
   have hH:∀a v,wr.cell? a=some v→a.block<w.heap.size→W4.cell? a=some v:=λa v h1 h2=>by
    have e1:W4.heap[a.block]?=wr.heap[a.block]?:=(q1.block _ h2).trans (hA.out.below.block _ h2).symm;rw [← h1];unfold World.cell?;rw [e1]
   have hI:p.its.At W4 (blk p.ia) (off p.ia):=(Df (HS.out.below q1).at_.phrases hp).2.2;have hJ:NumAt f W4 (p.its.refsL (blk p.ia) (off p.ia)):=λx hx=>(HS.out.below q1).nums x (Dr hp hx)
   have C:=QG f N wr.heap.size G i n n W2.heap.size hM (by unfold maxLen;omega) _ p.its (qn _) p.ia p.ic [] W4 hN hO hI hJ hU;have HC:=qh C;have ho:=qh hB;have hq:=qh hG;have hw:=@run_makeMap Tryz.prog;clear C hB hG hI hJ hH hU gI4 gA4 hR hT q1 q2 q3 q4 q5 q6 hC hE bW1 bW2 gW1 gW2 b3 hk hN hO hj hS;generalize hV:s.fa=fa at *;have hy:=qh hV;clear hV;generalize hr:blk fa=fb at *;generalize ht:off fa=fo at *;subst hh;clear hr ht;have sW2':W2.heap.size=wr.heap.size+2:=by omega
   have hX:=qh hP;have hY:=qh hQ;have hZ:=qh hD;have ha:=qh hF;have hu:=qh sW1;have HZ:=qh (And.intro z2N (And.intro z2I (And.intro z3G (And.intro z3c z4A))));clear sW1 sW2 hl hP hQ hD hF z2N z2I z3G z3c z4A sW2';refine Ae (λK1 hK=>?_);have hb:=qh hK;clear hK;go_wp2_with fail;refine hb.out _ _ ?_;clear hb K1;refine Ae (λK2 hK=>?_);have hc:=qh hK;clear hK;go_wp2_with fail;refine hc.out _ _ ?_;clear hc K2;refine Ae (λK3 hK=>?_);have hd:=qh hK;clear hK;refine wp_block ?_;refine Ae (λK4 hK=>?_);have he:=qh hK;clear hK;go_wp2_with fail;refine he.out _ _ ?_;clear he K4;rw [hX.out,hY.out,← hu.out];have hD:=hZ.out;have hF:=ha.out;obtain ⟨z2N,z2I,z3G,z3c,z4A⟩:=HZ.out;clear hX hY HZ hZ ha
   go_wp2_with (first
    | (go_at_call 41;refine HC.out.mono ?_;rintro e V ⟨rfl,hf,hg⟩;have HV:=qh (ho.out V _ hg hf.set_ hq.out);clear hf hg))
   refine hd.out _ _ ?_;clear hd K3 hD hF z2N z2I z3G z3c z4A;go_wp2_with fail;go_roundw
   case rel=>exact ⟨i+1,_,by go_num,by omega,qh (by have:=hL.out;simp;omega),HV⟩
   case measure=>simp [intOf];omega
  ·have:i=n:=by omega
   subst this;have hz:¬(i:Int)<(i:Int):=by omega
   go_wp2_with fail;exact HK.out ms _ _ _ _ _ _ _ _ _ _ _ _ _ _ _ _ _ _ _ _ _ _ _ _ _ _ _ _ _ _ _ _ _ _ _ _ _ _ _ _ _ _ _ _ _ _ _ _ _ _ _ _ _ _ _ _ _ _ _ _ _ _ _ _ _ _ _ _ _ _ _ _ _ _ _ _ _ _ _ _ _ _ _ _ _ _ _ _ _ _ _ _ _ _ _ _ _ _ _ _ _ _ _ _ _ _ _ _ _ _ _ _ _ _ _ _ _ _ _ _ _ _ _ _ _ _ _ _ _ _ _ _ _ _ _ _ _ _ _ _ _ _ _ _ _ _ _ wr hA.out hL.out
noncomputable def bodyB:Code:=match Kz with
  | .seq _ (.block _ (.loop (.seq _ (.seq _ (.seq (.block _ c) _)))))=>c
  | c=>c
noncomputable def Mr:Code:=match Ab 2 bodyB with
  | .seq (.seq _ (.block _ (.loop (.seq _ (.seq (.block _ (.seq _ (.block _ (.loop (.seq _ (.seq _ (.seq (.block _ c) _))))))) _))))) _=>c
  | c=>c
noncomputable def Vn:Code:=match Mr with
  | .seq a _=>a
  | c=>c
noncomputable def Vo:Code:=qe 1 Mr
def FarM(W:World)(F:Nat)(g:Int→Option Int):Prop:=∃kvs:List (Int×Value),MapAt kI W F kvs∧AD kvs∧∀x,As kvs x=(g x).map (Value.int .i64)
theorem FarM.of_block{W W':World}{F:Nat}{g:Int→Option Int}(h:FarM W F g)(hb:W'.heap[F]?=W.heap[F]?):FarM W' F g:=by
  obtain ⟨kvs,h1,h2⟩:=h;exact ⟨kvs,h1.of_block hb,h2⟩
theorem FarM.lt{W:World}{F:Nat}{g:Int→Option Int}(h:FarM W F g):F<W.heap.size:=by
  obtain ⟨kvs,h1,h2⟩:=h;exact h1.lt
theorem FarM.new(W:World):FarM (W.alloc (.map #[] 0)) W.heap.size (λ_=>none):=⟨[],MapAt.new W,List.nodup_nil,λ_=>rfl⟩
theorem FarM.grown{W W':World}{F x:Nat}{g:Int→Option Int}(h:FarM W F g)(hg:W.grownBy W' (some x))(hx:x≠F):FarM W' F g:=h.of_block (hg.block F h.lt (λe=>by cases e;exact hx rfl))
theorem FarM.lookup{W:World}{F:Nat}{g:Int→Option Int}(h:FarM W F g)(x:Int):(Instr.lookup 96 (.map (some F)) (int i64 x) true).run Tryz.prog W=.ok (.tuple #[int i64 ((g x).getD 0),.bool (g x).isSome]) W:=by
  obtain ⟨kvs,h1,_,h3⟩:=h;have:=Bt (P:=Tryz.prog) Bc Tryz.underlying96 Tryz.underlying3 h1 x (z:=int i64 0) (by kernel_rfl) true;rw [h3 x] at this;refine this.trans ?_;cases g x<;>rfl
theorem FarM.lookup1{W:World}{F:Nat}{g:Int→Option Int}(h:FarM W F g)(x:Int):(Instr.lookup 96 (.map (some F)) (int i64 x) false).run Tryz.prog W=.ok (int i64 ((g x).getD 0)) W:=by
  obtain ⟨kvs,h1,_,h3⟩:=h;have:=Bt (P:=Tryz.prog) Bc Tryz.underlying96 Tryz.underlying3 h1 x (z:=int i64 0) (by kernel_rfl) false;rw [h3 x] at this;refine this.trans ?_;cases g x<;>rfl
def F2(g:Int→Option Int)(k v:Int):Int→Option Int:=λx=>if x=k then some v else g x
theorem FarM.put{W:World}{F:Nat}{g:Int→Option Int}(h:FarM W F g)(k v:Int)(hk:g k=none) :
    ∃W',(Instr.mapUpdate 96 (.map (some F)) (int i64 k) (int i64 v)).run Tryz.prog W=.ok () W'∧FarM W' F (F2 g k v)∧W.grownBy W' (some F)∧W'.heap.size=W.heap.size:=by
  obtain ⟨kvs,h1,h2,h3⟩:=h;obtain ⟨o,hA,hM⟩:=AF (P:=Tryz.prog) Bc Tryz.underlying96 Tryz.underlying3 h1 h2 k (int i64 v);have hn:As kvs k=none:=by rw [h3,hk];rfl
  refine ⟨_,hA,⟨_,hM,AO h2 k _,λx=>?_⟩,Ew W F o,by simp⟩;unfold F2;by_cases hx:x=k
  · subst hx
    rw [if_pos rfl,Dl hn];rfl
  · rw [if_neg hx, ← h3 x]
    cases hg:As kvs x with
    | none=>exact DG hg (λe=>hx e.symm) _
    | some y=>exact FP hg (λe=>hx e.symm) _
def DR(i n:Int)(g:Int→Option Int)(to:Int):Bool:=(decide (n=1)&&decide (to=i))||(decide (1<n)&&decide (g to=some (n-1)))
def CY(ks:List Int)(i n:Int)(g:Int→Option Int):Bool:=ks.any (DR i n g)
theorem NextW.grown{w W W':World}{N G n x:Nat}{kss:List (List Int)}{ms:List Nat}(h:NextW w W N G n kss ms)(hg:W.grownBy W' (some x))(hN:x≠N)(hG:x≠G)(hm:x∉ms)(hx:w.heap.size≤x):NextW w W' N G n kss ms :=
  ⟨h.below.grown hg h.below.size (λk hk=>by cases hk;exact hx),h.lowN,h.lowG,(hg.block N (qs.1 h.box).1 (λe=>by cases e;exact hN rfl)).trans h.box,
   (hg.block G (qs.1 h.row).1 (λe=>by cases e;exact hG rfl)).trans h.row,h.len,h.low,
   λj m ks h1 h2=>(h.sets j m ks h1 h2).of_block (hg.block m (h.sets j m ks h1 h2).lt (λe=>by cases e;exact hm (List.mem_of_getElem? h1))),h.apart⟩
theorem NextW.lts{w W:World}{N G n:Nat}{kss:List (List Int)}{ms:List Nat}(h:NextW w W N G n kss ms)(hk:kss.length=n){m:Nat}(hm:m∈ms):m<W.heap.size:=by
  obtain ⟨j,hj⟩:=List.getElem?_of_mem hm;have hB:=(ql.1 hj).1;obtain ⟨ks,hA⟩:∃ks,kss[j]?=some ks:=⟨_,qg (by have:=h.len;omega)⟩;exact (h.sets j m ks hj hA).lt
structure FarW(w W:World)(N G n F:Nat)(kss:List (List Int))(ms:List Nat)(g:Int→Option Int):Prop where
  next:NextW w W N G n kss ms
  whole:ms.length=n
  klen:kss.length=n
  far:FarM W F g
  lowF:w.heap.size≤F
  offF:F∉ms
  neN:F≠N
  neG:F≠G
theorem FarW.grown{w W W':World}{N G n F x:Nat}{kss:List (List Int)}{ms:List Nat}{g:Int→Option Int}(h:FarW w W N G n F kss ms g)(hg:W.grownBy W' (some x))(hx:W.heap.size≤x∨(w.heap.size≤x∧x≠N∧x≠G∧x∉ms∧x≠F)):FarW w W' N G n F kss ms g:=by
  have hl:=h.next.below.size
  have hN:=(qs.1 h.next.box).1;have hG:=(qs.1 h.next.row).1;have hF:=h.far.lt
  have hA:w.heap.size≤x∧x≠N∧x≠G∧x∉ms∧x≠F:=by
    rcases hx with hx|hx
    · exact ⟨by omega,by omega,by omega,λhm=>by have:=h.next.lts h.klen hm;omega,by omega⟩
    · exact hx
  obtain ⟨a1,a2,a3,a4,a5⟩:=hA;exact ⟨h.next.grown hg a2 a3 a4 a1,h.whole,h.klen,h.far.grown hg a5,h.lowF,h.offF,h.neN,h.neG⟩
theorem FarW.below{w W W':World}{N G n F:Nat}{kss:List (List Int)}{ms:List Nat}{g:Int→Option Int}(h:FarW w W N G n F kss ms g)(hb:Below W.heap.size W W'):FarW w W' N G n F kss ms g :=
  ⟨h.next.keep hb,h.whole,h.klen,h.far.of_block (hb.block F h.far.lt),h.lowF,h.offF,h.neN,h.neG⟩
theorem FarW.put{w W W':World}{N G n F:Nat}{kss:List (List Int)}{ms:List Nat}{g g':Int→Option Int}(h:FarW w W N G n F kss ms g)(hg:W.grownBy W' (some F))(hf:FarM W' F g'):FarW w W' N G n F kss ms g' :=
  ⟨h.next.grown hg h.neN h.neG h.offF h.lowF,h.whole,h.klen,hf,h.lowF,h.offF,h.neN,h.neG⟩
theorem TK(i nn:Int)(k N G n F:Nat)(kss:List (List Int))(ms:List Nat)(ks:List Int)(g:Int→Option Int)(w W:World)(hW:FarW w W N G n F kss ms g)(hk:k<n)(hY:kss[k]?=some ks)(hZ:g k=none)(hy:1≤nn∧nn≤1000)(Q:Exit→Act→World→Prop)
    (hQ:∀(bP bQ bR bS bT bU bV bW bX bY bZ ca cb cc cd ce cf cg ch ci cj ck cm cn co cp cq cr cs ct cu cv cw cx cy cz cA cB cC cD cE:Value) (V:World),FarW w V N G n F kss ms (if CY ks i nn g=true then F2 g k nn else g)→Q .normal { tmps:=#[e0,e1,e2,.pointer (some ⟨N,0,none⟩),e4,e5,int i64 i,.map (some F),int i64 nn,int i64 k,ea,eb,bP,bQ,bR,ef,eg,eh,ei,ej,ek,el,em,en,eo,ep,eq,er,es,et,eu,ev,ew,ex,ey,ez,eA,eB,eC,eD,eE,eF,eG,eH,eI,eJ,eK,eL,eM,eN,eO,eP,eQ,eR,eS,eT,eU,eV,eW,eX,eY,eZ,aa,ab,ac,bS,bT,bU,bV,bW,bX,bY,bZ,ca,cb,cc,cd,ce,cf,cg,ch,ci,cj,ck,cm,cn,co,cp,cq,cr,cs,ct,cu,cv,cw,cx,cy,cz,cA,cB,cC,cD,cE,aS,aT,aU,aV,aW,aX,aY,aZ,ba,bb,bc,bd,be,bf,bg,bh,bi,bj,bk,bl,bm,bn,bo,bp,bq,br,bs,bt,bu,bv,bw,bx,bz,bA,bB,bC,bD,bE,bF,bG,bH,bI,bJ,bK,bL,bM,bN,bO],defers:=[] } V) :
    (Ab 2 Mr).wp Tryz.prog Q { tmps:=#[e0,e1,e2,.pointer (some ⟨N,0,none⟩),e4,e5,int i64 i,.map (some F),int i64 nn,int i64 k,ea,eb,ec,ed,ee,ef,eg,eh,ei,ej,ek,el,em,en,eo,ep,eq,er,es,et,eu,ev,ew,ex,ey,ez,eA,eB,eC,eD,eE,eF,eG,eH,eI,eJ,eK,eL,eM,eN,eO,eP,eQ,eR,eS,eT,eU,eV,eW,eX,eY,eZ,aa,ab,ac,ae,af,ag,ah,ai,aj,ak,al,am,an,ao,ap,aq,ar,au,av,aw,ax,ay,az,aA,aB,aC,aD,aE,aF,aG,aH,aI,aJ,aK,aL,aM,aN,aO,aP,aQ,aR,aS,aT,aU,aV,aW,aX,aY,aZ,ba,bb,bc,bd,be,bf,bg,bh,bi,bj,bk,bl,bm,bn,bo,bp,bq,br,bs,bt,bu,bv,bw,bx,bz,bA,bB,bC,bD,bE,bF,bG,bH,bI,bJ,bK,bL,bM,bN,bO],defers:=[] } W:=by
  obtain ⟨m,hm⟩:∃m,ms[k]?=some m:=⟨_,qg (by have:=hW.whole;omega)⟩;have hS:=hW.next.sets k m ks hm hY
  have y3:=Aa hW.next.box 0 rfl
  have yG:=Aa hW.next.row k (Eb ms hk)
  rw [hm] at yG;obtain ⟨V0,hz,hI0,ha,h0⟩:=hS.range (P:=Tryz.prog) (T:=93) Tryz.underlying93;have h3:=hS.lt;have hb:=hW.below ha;obtain ⟨R,hR⟩:∃R,W.heap.size=R:=⟨_,rfl⟩
  have hd:w.heap.size≤R∧R≠N∧R≠G∧R∉ms∧R≠F:=by
    have hl:=hW.next.below.size
    have hN:=(qs.1 hW.next.box).1;have hG:=(qs.1 hW.next.row).1;have hF:=hW.far.lt;exact ⟨by omega,by omega,by omega,λhm=>by have:=hW.next.lts hW.klen hm;omega,by omega⟩
  rw [hR] at hz hI0;have HQ:=qh hQ;have h4:=qh hb;have h5:=qh hI0;have h6:=qh hd;have h7:=qh hZ;have he:m≠R:=by omega
  have HA:=qh he;clear hQ hW hb hI0 hd hS hm hY h3 h0 ha hZ hR he;have HB:(k:Int)<(n:Int):=by omega
  conv=>arg 2;whnf
  go_wp2_with fail;go_loopw [12,13,14] (λ_ _ _ wr=>∃left,Hid (ItB wr R m ks left)∧Hid (∀x∈ks,x∈left∨DR i nn g x=false)∧Hid (FarW w wr N G n F kss ms g)) (λ_ _ _ wr=>wr.rangeLeft m R)
  case atStart=>exact ⟨ks,h5,qh (λx hx=>Or.inl hx),h4⟩
  case round =>
    obtain ⟨left,hI,hD,hW⟩:=hrel;rcases hI.out.next (P:=Tryz.prog) with ⟨hl,h8⟩|⟨to,V,left',hf,⟨_,h8⟩,HC,hP,hg,hh,hJ,hi,hC⟩
    · have hA:CY ks i nn g=false:=by
        unfold CY;rw [← Bool.not_eq_true,List.any_eq_true];rintro ⟨x,hx,hj⟩;rcases hD.out x hx with h|h
        · rw [hl] at h;cases h
        · rw [h] at hj;cases hj
      have hE:=qh hA;clear hA hl;go_wp2_with fail;refine HQ.out _ _ _ _ _ _ _ _ _ _ _ _ _ _ _ _ _ _ _ _ _ _ _ _ _ _ _ _ _ _ _ _ _ _ _ _ _ _ _ _ _ _ ?_;rw [hE.out];exact hW.out
    · have hn : wr.grownBy V (some R) := ⟨(hC 0 (Nat.zero_le _)).os, (hC 0 (Nat.zero_le _)).tape, (hC 0 (Nat.zero_le _)).output, Nat.le_of_eq hi.symm, fun c _ hc => hJ c (fun e => hc (by rw [e]))⟩
      have hM:=hW.out.grown hn (Or.inr h6.out);have ho:=hM.far.lookup to;obtain ⟨V2,hT,hp,hq,h9⟩:=hM.far.put k nn h7.out;have hK:=qh hM;have hU:=qh hP;have hV:=qh hg;have hX:Hid (V.rangeLeft m R<wr.rangeLeft m R):=qh (by rw [hP.cnt,hI.out.cnt];exact hh);have hr:Hid (to∈ks):=qh (hI.out.sub to hf);obtain ⟨HD,HE⟩:=hy;have hs:=qh hp;have ht:=qh hq;clear hM hP hg hh hJ hi hC hn hp hq h9 hf hI;by_cases h1:nn=1
      · subst h1
        by_cases hu:to=i
        · subst hu
          have hL:DR to 1 g to=true:=by unfold DR;simp
          have hB:CY ks to 1 g=true:=List.any_eq_true.2 ⟨to,hr.out,hL⟩;have HY:=qh hB;clear hB hL;go_wp2_with fail;refine HQ.out _ _ _ _ _ _ _ _ _ _ _ _ _ _ _ _ _ _ _ _ _ _ _ _ _ _ _ _ _ _ _ _ _ _ _ _ _ _ _ _ _ _ ?_;rw [if_pos HY.out];exact hK.out.put ht.out hs.out
        · have hA : DR i 1 g to = false := by unfold DR; rw [decide_eq_false hu]; simp
          have hE:=qh hA;clear hA hT;go_wp2_with fail;go_roundw
          case rel =>
            refine ⟨left',hU,qh (λx hx=>?_),hK⟩;rcases hD.out x hx with h|h
            · rcases hV.out x h with rfl | h
              · exact Or.inr hE.out
              · exact Or.inl h
            · exact Or.inr h
          case measure=>exact hX.out
      · have h2 : 1 < nn := by omega
        have hw:IntKind.i64.wrap (nn-1)=nn-1:=IntWalk.i64_in _ (by omega)
        cases hH:g to with
        | none =>
          rw [hH] at ho;have hO:=qh hH;clear hH;have hA:DR i nn g to=false:=by unfold DR;rw [hO.out,decide_eq_false h1];simp
          have hE:=qh hA;clear hA hT;go_wp2_with fail;go_roundw
          case rel =>
            refine ⟨left',hU,qh (λx hx=>?_),hK⟩;rcases hD.out x hx with h|h
            · rcases hV.out x h with rfl | h
              · exact Or.inr hE.out
              · exact Or.inl h
            · exact Or.inr h
          case measure=>exact hX.out
        | some v =>
          rw [hH] at ho;have hO:=qh hH;clear hH;by_cases hv:v=nn-1
          · subst hv
            have hL:DR i nn g to=true:=by unfold DR;rw [hO.out,decide_eq_false h1,decide_eq_true h2];simp
            have hB:CY ks i nn g=true:=List.any_eq_true.2 ⟨to,hr.out,hL⟩;have HY:=qh hB;clear hB hL;go_wp2_with fail;refine HQ.out _ _ _ _ _ _ _ _ _ _ _ _ _ _ _ _ _ _ _ _ _ _ _ _ _ _ _ _ _ _ _ _ _ _ _ _ _ _ _ _ _ _ ?_;rw [if_pos HY.out];exact hK.out.put ht.out hs.out
          · have hA : DR i nn g to = false := by unfold DR; rw [hO.out, decide_eq_false h1, decide_eq_true h2]; simp only [Option.some.injEq, Bool.false_and, Bool.true_and, Bool.false_or]; exact decide_eq_false hv
            have hE:=qh hA;clear hA hT;go_wp2_with fail;go_roundw
            case rel =>
              refine ⟨left',hU,qh (λx hx=>?_),hK⟩;rcases hD.out x hx with h|h
              · rcases hV.out x h with rfl | h
                · exact Or.inr hE.out
                · exact Or.inl h
              · exact Or.inr h
            case measure=>exact hX.out
def En(kss:List (List Int))(i nn:Int)(j:Nat)(g:Int→Option Int):Int→Option Int:=if (g j).isSome=true then g else if CY (kss.getD j []) i nn g=true then F2 g j nn else g
def Es(kss:List (List Int))(i nn:Int)(g:Int→Option Int):Nat→(Int→Option Int)
 | 0=>g
 | j+1=>En kss i nn j (Es kss i nn g j)
def AN(kss:List (List Int))(i:Int):Nat→(Int→Option Int)
 | 0=>λ_=>none
 | m+1=>Es kss i (m+1:Nat) (AN kss i m) kss.length
noncomputable def body5:Code:=match Ab 2 bodyB with
 | .seq (.seq _ (.block _ (.loop (.seq _ (.seq (.block _ c) _))))) _=>c
 | c=>c
theorem TJ(i nn:Int)(N G n F:Nat)(kss:List (List Int))(ms:List Nat)(g:Int→Option Int)(w W:World)(hW:FarW w W N G n F kss ms g)(hn:n≤1000)(hH:1≤nn∧nn≤1000)(Q:Exit→Act→World→Prop)
  (hQ:∀(x9 bP bQ bR bS bT bU bV bW bX bY bZ ca cb cc cd ce cf cg ch ci cj ck cm cn co cp cq cr cs ct cu cv cw cx cy cz cA cB cC cD cE cF cG cH cI cJ cK cL cM cN cO cP cQ cR cS cT:Value) (V:World),FarW w V N G n F kss ms (Es kss i nn g n)→Q .normal { tmps:=#[e0,e1,e2,.pointer (some ⟨N,0,none⟩),e4,e5,int i64 i,.map (some F),int i64 nn,x9,bP,bQ,bR,bS,bT,ef,eg,eh,ei,ej,ek,el,em,en,eo,ep,eq,er,es,et,eu,ev,ew,ex,ey,ez,eA,eB,eC,eD,eE,eF,eG,eH,eI,eJ,eK,eL,eM,eN,eO,eP,eQ,bU,bV,bW,bX,bY,bZ,ca,cb,cc,cd,ce,cf,cg,ch,ci,cj,ck,cm,cn,co,cp,cq,cr,cs,ct,cu,cv,cw,cx,cy,cz,cA,cB,cC,cD,cE,cF,cG,cH,cI,cJ,cK,cL,cM,cN,cO,cP,cQ,cR,cS,cT,aT,aU,aV,aW,aX,aY,aZ,ba,bb,bc,bd,be,bf,bg,bh,bi,bj,bk,bl,bm,bn,bo,bp,bq,br,bs,bt,bu,bv,bw,bx,bz,bA,bB,bC,bD,bE,bF,bG,bH,bI,bJ,bK,bL,bM,bN,bO],defers:=[] } V) :
  body5.wp Tryz.prog Q { tmps:=#[e0,e1,e2,.pointer (some ⟨N,0,none⟩),e4,e5,int i64 i,.map (some F),int i64 nn,e9,ea,eb,ec,ed,ee,ef,eg,eh,ei,ej,ek,el,em,en,eo,ep,eq,er,es,et,eu,ev,ew,ex,ey,ez,eA,eB,eC,eD,eE,eF,eG,eH,eI,eJ,eK,eL,eM,eN,eO,eP,eQ,eR,eS,eT,eU,eV,eW,eX,eY,eZ,aa,ab,ac,ae,af,ag,ah,ai,aj,ak,al,am,an,ao,ap,aq,ar,au,av,aw,ax,ay,az,aA,aB,aC,aD,aE,aF,aG,aH,aI,aJ,aK,aL,aM,aN,aO,aP,aQ,aR,aS,aT,aU,aV,aW,aX,aY,aZ,ba,bb,bc,bd,be,bf,bg,bh,bi,bj,bk,bl,bm,bn,bo,bp,bq,br,bs,bt,bu,bv,bw,bx,bz,bA,bB,bC,bD,bE,bF,bG,bH,bI,bJ,bK,bL,bM,bN,bO],defers:=[] } W:=by
 have y3:=Aa hW.next.box 0 rfl
 have HQ:=qh hQ;have hP:=qh hW;have hR:=qh hH;clear hQ hW hH
 conv=>arg 2;whnf
 go_wp2_with fail;go_loopw [55] (λiv wr=>∃j:Nat,iv=int i64 j∧j≤n∧Hid (FarW w wr N G n F kss ms (Es kss i nn g j))) (λiv _=>n+1-(intOf iv).toNat)
 case atStart=>exact ⟨0,rfl,Nat.zero_le _,hP⟩
 case round =>
  obtain ⟨j,rfl,hX,hW⟩:=hrel;by_cases hS:j<n
  ·have hj:(j:Int)<(n:Int):=by omega
   obtain ⟨ks,hC⟩:∃ks,kss[j]?=some ks:=⟨_,qg (by have:=hW.out.klen;omega)⟩;have hD:kss.getD j []=ks:=by rw [List.getD_eq_getElem?_getD,hC];rfl
   obtain ⟨g',hE⟩:∃g',Es kss i nn g j=g':=⟨_,rfl⟩;have hJ:Es kss i nn g (j+1)=En kss i nn j g':=by rw [Es,hE]
   have HJ:=qh hJ;rw [hE] at hW;clear hJ hE;have hF:=hW.out.far.lookup j
   cases hA:g' j with
   | some v =>
    rw [hA] at hF;have hB:En kss i nn j g'=g':=by unfold En;rw [hA];rfl
    have hG:=qh hB;clear hB hA hD hC;go_wp2_with fail;go_roundw
    case rel=>exact ⟨j+1,by go_num,by omega,qh (by rw [HJ.out,hG.out];exact hW.out)⟩
    case measure=>simp [intOf];omega
   | none =>
    rw [hA] at hF;have hB:En kss i nn j g'=if CY ks i nn g'=true then F2 g' j nn else g':=by unfold En;rw [hA,hD];rfl
    have hG:=qh hB;have hT:=qh hC;have hU:=qh hA;clear hB hA hD hC;refine Ae (λK1 hK=>?_);have hI:=qh hK;clear hK;go_wp2_with fail;refine hI.out _ _ ?_;clear hI K1;refine Ae (λK2 hK=>?_);have hL:=qh hK;clear hK;go_wp2_with fail;refine hL.out _ _ ?_;clear hL K2;refine Ae (λK3 hK=>?_);have hM:=qh hK;clear hK;refine wp_block ?_;change Code.wp Tryz.prog (.seq Vn (.seq Vo (Ab 2 Mr))) _ _ _;refine Ae (λK4 hK=>?_);have hN:=qh hK;clear hK
    conv=>arg 2;whnf
    go_wp2_with fail;refine hN.out _ _ ?_;clear hN K4;refine Ae (λK5 hK=>?_);have hO:=qh hK;clear hK
    conv=>arg 2;whnf
    go_wp2_with fail;refine hO.out _ _ ?_;clear hO K5;refine TK i nn j N G n F kss ms ks g' w wr hW.out hS hT.out hU.out hR.out _ ?_
    intros
    rename_i V hV;refine hM.out _ _ ?_;rw [← hG.out,← HJ.out] at hV;have HV:=qh hV;clear hV hM K3 hF;go_wp2_with fail;go_roundw
    case rel=>exact ⟨j+1,by go_num,by omega,HV⟩
    case measure=>simp [intOf];omega
  ·have:j=n:=by omega
   subst this;have hz:¬(j:Int)<(j:Int):=by omega
   go_wp2_with fail;exact HQ.out _ _ _ _ _ _ _ _ _ _ _ _ _ _ _ _ _ _ _ _ _ _ _ _ _ _ _ _ _ _ _ _ _ _ _ _ _ _ _ _ _ _ _ _ _ _ _ _ _ _ _ _ _ _ _ _ _ wr hW.out
noncomputable def bBn(k:Nat):Code:=match Ab k bodyB with
 | .seq a _=>a
 | c=>c
theorem QO:bodyB=.seq (bBn 0) (Ab 1 bodyB):=rfl
theorem QP:Ab 1 bodyB=.seq (bBn 1) (Ab 2 bodyB):=rfl
theorem QQ:Ab 2 bodyB=.seq (bBn 2) (Ab 3 bodyB):=rfl
theorem TI(i:Int)(N G n F:Nat)(kss:List (List Int))(ms:List Nat)(w W:World)(hW:FarW w W N G n F kss ms (λ_=>none))(hn:n≤1000)(Q:Exit→Act→World→Prop)
  (hQ:∀(x8 x9 bP bQ bR bS bT bU bV bW bX bY bZ ca cb cc cd ce cf cg ch ci cj ck cm cn co cp cq cr cs ct cu cv cw cx cy cz cA cB cC cD cE cF cG cH cI cJ cK cL cM cN cO cP cQ cR cS cT cU cV cW cX cY cZ:Value) (V:World),FarW w V N G n F kss ms (AN kss i n)→Q .normal { tmps:=#[e0,e1,e2,.pointer (some ⟨N,0,none⟩),e4,e5,int i64 i,.map (some F),x8,x9,bP,bQ,bR,bS,bT,ef,eg,eh,ei,ej,ek,el,em,en,eo,ep,eq,er,es,et,eu,ev,ew,ex,ey,ez,eA,eB,eC,eD,eE,eF,eG,eH,eI,eJ,eK,bU,bV,bW,bX,bY,bZ,ca,cb,cc,cd,ce,cf,cg,ch,ci,cj,ck,cm,cn,co,cp,cq,cr,cs,ct,cu,cv,cw,cx,cy,cz,cA,cB,cC,cD,cE,cF,cG,cH,cI,cJ,cK,cL,cM,cN,cO,cP,cQ,cR,cS,cT,cU,cV,cW,cX,cY,cZ,aT,aU,aV,aW,aX,aY,aZ,ba,bb,bc,bd,be,bf,bg,bh,bi,bj,bk,bl,bm,bn,bo,bp,bq,br,bs,bt,bu,bv,bw,bx,bz,bA,bB,bC,bD,bE,bF,bG,bH,bI,bJ,bK,bL,bM,bN,bO],defers:=[] } V) :
  (bBn 2).wp Tryz.prog Q { tmps:=#[e0,e1,e2,.pointer (some ⟨N,0,none⟩),e4,e5,int i64 i,.map (some F),e8,e9,ea,eb,ec,ed,ee,ef,eg,eh,ei,ej,ek,el,em,en,eo,ep,eq,er,es,et,eu,ev,ew,ex,ey,ez,eA,eB,eC,eD,eE,eF,eG,eH,eI,eJ,eK,eL,eM,eN,eO,eP,eQ,eR,eS,eT,eU,eV,eW,eX,eY,eZ,aa,ab,ac,ae,af,ag,ah,ai,aj,ak,al,am,an,ao,ap,aq,ar,au,av,aw,ax,ay,az,aA,aB,aC,aD,aE,aF,aG,aH,aI,aJ,aK,aL,aM,aN,aO,aP,aQ,aR,aS,aT,aU,aV,aW,aX,aY,aZ,ba,bb,bc,bd,be,bf,bg,bh,bi,bj,bk,bl,bm,bn,bo,bp,bq,br,bs,bt,bu,bv,bw,bx,bz,bA,bB,bC,bD,bE,bF,bG,bH,bI,bJ,bK,bL,bM,bN,bO],defers:=[] } W:=by
 have HQ:=qh hQ;have hE:=qh hW;clear hQ hW
 conv=>arg 2;whnf
 go_wp2_with fail;go_loopw [8] (λiv wr=>∃j:Nat,iv=int i64 (j+1:Nat)∧j≤n∧Hid (FarW w wr N G n F kss ms (AN kss i j))) (λiv _=>n+3-(intOf iv).toNat)
 case atStart=>exact ⟨0,rfl,Nat.zero_le _,hE⟩
 case round =>
  obtain ⟨j,rfl,hG,hW⟩:=hrel;have y3:=Aa hW.out.next.box 0 rfl
  by_cases hH:j<n
  ·have hj:((j+1:Nat):Int)≤(n:Int):=by omega
   have hJ:AN kss i (j+1)=Es kss i (j+1:Nat) (AN kss i j) n:=by rw [AN,hW.out.klen]
   have HJ:=qh hJ;clear hJ;obtain ⟨nn,hA⟩:∃nn:Int,((j+1:Nat):Int)=nn:=⟨_,rfl⟩;have hB:=qh hA;have h1:1≤nn:=by omega
   have h2:nn≤1000:=by omega
   rw [hA] at hj;rw [hA];clear hA;refine Ae (λK1 hK=>?_);have hC:=qh hK;clear hK;go_wp2_with fail;refine hC.out _ _ ?_;clear hC K1;refine Ae (λK3 hK=>?_);have hD:=qh hK;clear hK;refine wp_block ?_;change Code.wp Tryz.prog body5 _ _ _;refine TJ i nn N G n F kss ms (AN kss i j) w wr hW.out hn ⟨h1,h2⟩ _ ?_
   intros
   rename_i V hV;refine hD.out _ _ ?_;rw [← hB.out,← HJ.out] at hV;have HV:=qh hV;clear hV hD K3;have hF:=hB.out;subst hF;go_wp2_with fail;go_roundw
   case rel=>exact ⟨j+1,by go_num,by omega,HV⟩
   case measure=>simp [intOf];omega
  ·have:j=n:=by omega
   subst this;have hz:¬((j+1:Nat):Int)≤(j:Int):=by omega
   go_wp2_with fail;exact HQ.out _ _ _ _ _ _ _ _ _ _ _ _ _ _ _ _ _ _ _ _ _ _ _ _ _ _ _ _ _ _ _ _ _ _ _ _ _ _ _ _ _ _ _ _ _ _ _ _ _ _ _ _ _ _ _ _ _ _ _ _ _ _ _ _ wr hW.out
def onB(kss:List (List Int))(g:Int→Option Int)(at_ left:Int)(k:Nat):Bool:=decide ((k:Int)∈kss.getD at_.toNat [])&&decide ((g k).getD 0=left)
def DJ(kss:List (List Int))(g:Int→Option Int)(at_ left:Int)(n:Nat):Option Nat:=(List.range n).find? (onB kss g at_ left)
def Dk(kss:List (List Int))(g:Int→Option Int)(n:Nat):Nat→Int→List Int
 | 0,_=>[]
 | left+1,at_=>match DJ kss g at_ (left+1:Nat) n with
  | some k=>(k:Int)::Dk kss g n left k
  | none=>Dk kss g n left at_
theorem Nt{kss:List (List Int)}{g:Int→Option Int}{at_ left:Int}{n:Nat}(h:∀k,k<n→onB kss g at_ left k=false):DJ kss g at_ left n=none:=by
 unfold DJ;rw [List.find?_eq_none];intro k hk;rw [h k (by simpa using hk)];simp
theorem Jl{kss:List (List Int)}{g:Int→Option Int}{at_ left:Int}{n k:Nat}(hk:k<n)(h:∀j,j<k→onB kss g at_ left j=false)(hy:onB kss g at_ left k=true):DJ kss g at_ left n=some k:=by
 unfold DJ;rw [List.find?_range_eq_some];exact ⟨hy,by simpa using hk,λj hj=>by simpa using h j hj⟩
theorem SetB.lookup{w:World}{b:Nat}{ks:List Int}(h:SetB w b ks)(x:Int):(Instr.lookup 93 (.map (some b)) (int i64 x) false).run Tryz.prog w=.ok (.bool (decide (x∈ks))) w:=by
 have:=Bt (P:=Tryz.prog) Bc Tryz.underlying93 Tryz.underlying3 h.map_ x (z:=.bool false) (by kernel_rfl) false;rw [Mg] at this;refine this.trans ?_;by_cases hx:x∈ks
 ·simp [hx]
 ·simp [hx]
theorem LI:(Tryz.prog.info? 3).map (λi=>(i.zero,i.size,i.bytes))=some (some (int i64 0),1,8):=by kernel_rfl
def Ci(l:List Int):List Value:=l.map (Value.int .i64)
theorem MG{w:World}{base e s n g:Nat}{v:Value}{xs:List Value}(h:w.ownsRow base e s v n xs)(hg:v.ownBlock=some g):base≤g:=by
 rcases h.2 with ⟨rfl,_⟩|⟨g',cap,cur,rfl,h1,_⟩
 ·cases hg
 ·cases hg;exact h1
theorem TW{A B C:World}{n:Nat}(h:Below n A B)(k:Below n B C):Below n A C:=h.trans k
structure WayW(w S W:World)(N G n F:Nat)(kss:List (List Int))(ms:List Nat)(g:Int→Option Int)(v:Value)(l:List Int):Prop where
 far:FarW w S N G n F kss ms g
 below:Below S.heap.size S W
 own:W.ownsRow S.heap.size 3 1 v l.length (Ci l)
 range:∀x∈l,0≤x∧x<n
theorem IG(w:World)(v:Value)(t:TypeId):∀j u,[v][j]?=some u→(w.alloc (.cells #[v] t)).cell? ((⟨w.heap.size,0,none⟩:Addr).add j)=some u:=by
 intro j u hj
 cases j with
 | zero=>simp at hj;subst hj;simp [Addr.add]
 | succ j=>simp at hj
noncomputable def Ln:Code:=match bBn 6 with
 | .seq _ (.block _ (.loop (.seq _ (.seq (.block _ c) _))))=>c
 | c=>c
noncomputable def Uf:Code:=match Ln with
 | .seq a _=>a
 | c=>c
theorem UK(i left at_:Int)(N G n F:Nat)(kss:List (List Int))(ms:List Nat)(g:Int→Option Int)(v:Value)(l:List Int)(w S W:World)(hW:WayW w S W N G n F kss ms g v l)(hn:n≤1000)(hl:l.length≤1000)(ha:0≤at_∧at_<n)(Q:Exit→Act→World→Prop)
  (hQ:∀(v':Value) (bM bN bO bP bQ bR bS bT bU bV bW bX bY bZ ca cb cc cd ce cf cg ch ci cj:Value) (V:World),WayW w S V N G n F kss ms g v' (l++((DJ kss g at_ left n).toList.map λk:Nat=>(k:Int)))→Q .normal { tmps:=#[e0,e1,e2,.pointer (some ⟨N,0,none⟩),e4,e5,int i64 i,.map (some F),e8,e9,ea,eb,ec,ed,ee,int i64 left,ef,v',int i64 at_,bM,eh,ei,ej,ek,el,em,en,eo,ep,eq,er,es,et,eu,ev,ew,ex,ey,ez,eA,eB,eC,eD,eE,eF,eG,eH,eI,eJ,eK,eL,eM,eN,eO,eP,eQ,eR,eS,eT,eU,eV,eW,eX,eY,eZ,aa,ab,ac,ae,af,ag,ah,ai,aj,ak,al,am,an,ao,ap,aq,ar,au,av,aw,ax,ay,az,aA,aB,aC,aD,aE,aF,aG,aH,aI,aJ,aK,aL,aM,aN,aO,aP,aQ,aR,aS,aT,aU,aV,aW,aX,aY,aZ,ba,bb,bc,bd,be,bf,bg,bh,bi,bj,bk,bl,bN,bO,bP,bQ,bR,bS,bT,bU,bV,bW,bX,bY,bZ,ca,cb,cc,cd,ce,cf,cg,ch,ci,cj,bK,bL],defers:=[] } V) :
  (Ab 1 Ln).wp Tryz.prog Q { tmps:=#[e0,e1,e2,.pointer (some ⟨N,0,none⟩),e4,e5,int i64 i,.map (some F),e8,e9,ea,eb,ec,ed,ee,int i64 left,ef,v,int i64 at_,eg,eh,ei,ej,ek,el,em,en,eo,ep,eq,er,es,et,eu,ev,ew,ex,ey,ez,eA,eB,eC,eD,eE,eF,eG,eH,eI,eJ,eK,eL,eM,eN,eO,eP,eQ,eR,eS,eT,eU,eV,eW,eX,eY,eZ,aa,ab,ac,ae,af,ag,ah,ai,aj,ak,al,am,an,ao,ap,aq,ar,au,av,aw,ax,ay,az,aA,aB,aC,aD,aE,aF,aG,aH,aI,aJ,aK,aL,aM,aN,aO,aP,aQ,aR,aS,aT,aU,aV,aW,aX,aY,aZ,ba,bb,bc,bd,be,bf,bg,bh,bi,bj,bk,bl,bm,bn,bo,bp,bq,br,bs,bt,bu,bv,bw,bx,bz,bA,bB,bC,bD,bE,bF,bG,bH,bI,bJ,bK,bL],defers:=[] } W:=by
 obtain ⟨a,rfl⟩:∃a:Nat,at_=a:=⟨at_.toNat,by omega⟩;have hN:a<n:=by omega
 have hF:=hW.far.below hW.below;obtain ⟨m,hm⟩:∃m,ms[a]?=some m:=⟨_,qg (by have:=hF.whole;omega)⟩;obtain ⟨ks,hG⟩:∃ks,kss[a]?=some ks:=⟨_,qg (by have:=hF.klen;omega)⟩;have hI:kss.getD (a:Int).toNat []=ks:=by rw [Int.toNat_natCast,List.getD_eq_getElem?_getD,hG];rfl
 have y3:=Aa hF.next.box 0 rfl
 have yG:=Aa hF.next.row a (Eb ms hN)
 rw [hm] at yG;have hJ:=hF.next.sets a m ks hm hG
 have hK:=hF.far;have HQ:=qh hQ;have HW:=qh hW;have hO:=qh hJ.lookup;have hP:=qh hK.lookup1;have hL:=qh hI;clear hQ hW hF hm hG hI hJ hK ha;have hZ:(a:Int)<(n:Int):=by omega
 conv=>arg 2;whnf
 go_wp2_with fail;go_loopw [17,128] (λlv iv wr=>∃k:Nat,iv=int i64 k∧lv=v∧k≤n∧wr=W∧Hid (∀j,j<k→onB kss g a left j=false)) (λ_ iv _=>n+1-(intOf iv).toNat)
 case atStart=>exact ⟨0,rfl,rfl,Nat.zero_le _,rfl,qh (λj hj=>by omega)⟩
 case round =>
  obtain ⟨k,rfl,rfl,hc,rfl,hE⟩:=hrel;by_cases hR:k<n
  ·have hk:(k:Int)<(n:Int):=by omega
   have hM:=hO.out k;have hS:=hP.out k;by_cases hA:(k:Int)∈ks
   ·rw [decide_eq_true hA] at hM
    by_cases hv:(g k).getD 0=left
    ·rw [hv] at hS
     have hy:onB kss g a left k=true:=by unfold onB;rw [hL.out,decide_eq_true hA,decide_eq_true hv];rfl
     have hB:=Jl hR hE.out hy;have hH:=qh hB;obtain ⟨i3,hT,hU,hV,hX⟩:=info_parts LI;have HO:=qh (HW.out.own.alloc (.cells #[int i64 (k:Int)] 3));have hY:=HW.out.below.size;clear hy hB hA hv
     go_wp2_with (at_builtin;go_loud (refine wpList_append_own _ rfl _ _ 35 rfl S.heap.size 3 i3 (int i64 0) 1 8 Tryz.underlying35 hT hU hV hX rfl (by decide) _ l.length (Ci l) rfl HO.out ⟨wr.heap.size,0,none⟩ 1 1 [int i64 (k:Int)] rfl rfl (IG _ _ _) (by intro u hu;simp at hu;subst hu;rfl) (by simp only [maxLen];omega) (by omega) (by simp;omega) ?_;intro v' w4 hC hD _));refine HQ.out v' _ _ _ _ _ _ _ _ _ _ _ _ _ _ _ _ _ _ _ _ _ _ _ _ w4 ?_;rw [hH.out];refine ⟨HW.out.far,TW HW.out.below (((Below.refl S.heap.size wr).alloc hY _).grown hD (by simp;omega) (λb hb=>MG HW.out.own hb)),?_,λx hx=>?_⟩
     ·unfold Ci at hC ⊢
      simpa using hC
     ·rcases List.mem_append.1 hx with hx|hx
      ·exact HW.out.range x hx
      ·simp at hx;subst hx;omega
    ·have hy:onB kss g a left k=false:=by unfold onB;rw [decide_eq_false hv,Bool.and_false]
     have HY:=qh hy;clear hy hA;go_wp2_with fail;go_roundw
     case rel=>exact ⟨k+1,by go_num,by trivial,by omega,by trivial,qh (λj hj=>by rcases Nat.lt_or_ge j k with h|h;exact hE.out j h;rw [show j=k by omega];exact HY.out)⟩
     case measure=>simp [intOf];omega
   ·rw [decide_eq_false hA] at hM
    have hy:onB kss g a left k=false:=by unfold onB;rw [hL.out,decide_eq_false hA,Bool.false_and]
    have HY:=qh hy;clear hy hA;go_wp2_with fail;go_roundw
    case rel=>exact ⟨k+1,by go_num,by trivial,by omega,by trivial,qh (λj hj=>by rcases Nat.lt_or_ge j k with h|h;exact hE.out j h;rw [show j=k by omega];exact HY.out)⟩
    case measure=>simp [intOf];omega
  ·have:k=n:=by omega
   subst this;have hz:¬(k:Int)<(k:Int):=by omega
   have hB:DJ kss g a left k=none:=Nt hE.out;have hH:=qh hB;clear hB;go_wp2_with fail;refine HQ.out _ _ _ _ _ _ _ _ _ _ _ _ _ _ _ _ _ _ _ _ _ _ _ _ _ wr ?_;rw [hH.out];simpa using HW.out
theorem I8{w:World}{B n:Nat}{v:Value}{xs:List Value}(h:w.ownsRow B 3 1 v n xs)(hn:n≠0):∃g cap,v=.slice (some ⟨g,0,none⟩) n cap∧∀(j:Nat) (u:Value),xs[j]?=some u→w.cell? ⟨g,j,none⟩=some u:=by
 have hc:=h;rcases h.2 with ⟨rfl,h0⟩|⟨g,cap,cur,rfl,_⟩
 ·exact absurd h0 hn
 ·refine ⟨g,cap,rfl,λj u hj=>?_⟩
  have:=hc.cells (g:=g) rfl j u hj;rw [AM,Nat.zero_add] at this;exact this
theorem QH(kss:List (List Int))(g:Int→Option Int)(n left:Nat)(l:List Int)(x:Int)(hx:l.getLast?=some x)(tot:List Int)(h:l++Dk kss g n (left+1) x=tot) :
  ∃y,(l++((DJ kss g x (left+1:Nat) n).toList.map λk:Nat=>(k:Int))).getLast?=some y∧(l++((DJ kss g x (left+1:Nat) n).toList.map λk:Nat=>(k:Int)))++Dk kss g n left y=tot:=by
 unfold Dk at h
 cases hp:DJ kss g x (left+1:Nat) n with
 | none =>
  rw [hp] at h;exact ⟨x,by simpa using hx,by simpa using h⟩
 | some k =>
  rw [hp] at h;exact ⟨k,by simp,by simpa using h⟩
theorem TL(i:Int)(d N G n F:Nat)(kss:List (List Int))(ms:List Nat)(g:Int→Option Int)(v:Value)(w S W:World)(hW:WayW w S W N G n F kss ms g v [i])(hn:n≤1000)(hd:d≤998)(Q:Exit→Act→World→Prop)
  (hQ:∀(v':Value) (bN bO bP bQ bR bS bT bU bV bW bX bY bZ ca cb cc cd ce cf cg ch ci cj ck cm cn co cp cq cr cs ct cu cv cw cx cy cz:Value) (V:World),WayW w S V N G n F kss ms g v' (i::Dk kss g n d i)→Q .normal { tmps:=#[e0,e1,e2,.pointer (some ⟨N,0,none⟩),e4,e5,int i64 i,.map (some F),e8,e9,ea,eb,ec,ed,ee,bN,ef,v',bO,bP,ei,ej,ek,el,em,en,eo,ep,eq,er,es,et,eu,ev,ew,ex,ey,ez,eA,eB,eC,eD,eE,eF,eG,eH,eI,eJ,eK,eL,eM,eN,eO,eP,eQ,eR,eS,eT,eU,eV,eW,eX,eY,eZ,aa,ab,ac,ae,af,ag,ah,ai,aj,ak,al,am,an,ao,ap,aq,ar,au,av,aw,ax,ay,az,aA,aB,aC,aD,aE,aF,aG,aH,aI,aJ,aK,aL,aM,aN,aO,aP,aQ,aR,aS,aT,aU,aV,aW,aX,aY,aZ,ba,bQ,bR,bS,bT,bU,bV,bW,bX,bY,bZ,ca,cb,cc,cd,ce,cf,cg,ch,ci,cj,ck,cm,cn,co,cp,cq,cr,cs,ct,cu,cv,cw,cx,cy,cz,bL,bM],defers:=[] } V) :
  (bBn 6).wp Tryz.prog Q { tmps:=#[e0,e1,e2,.pointer (some ⟨N,0,none⟩),e4,e5,int i64 i,.map (some F),e8,e9,ea,eb,ec,ed,ee,int i64 (d+1:Nat),ef,v,eg,eh,ei,ej,ek,el,em,en,eo,ep,eq,er,es,et,eu,ev,ew,ex,ey,ez,eA,eB,eC,eD,eE,eF,eG,eH,eI,eJ,eK,eL,eM,eN,eO,eP,eQ,eR,eS,eT,eU,eV,eW,eX,eY,eZ,aa,ab,ac,ae,af,ag,ah,ai,aj,ak,al,am,an,ao,ap,aq,ar,au,av,aw,ax,ay,az,aA,aB,aC,aD,aE,aF,aG,aH,aI,aJ,aK,aL,aM,aN,aO,aP,aQ,aR,aS,aT,aU,aV,aW,aX,aY,aZ,ba,bb,bc,bd,be,bf,bg,bh,bi,bj,bk,bl,bm,bn,bo,bp,bq,br,bs,bt,bu,bv,bw,bx,bz,bA,bB,bC,bD,bE,bF,bG,bH,bI,bJ,bK,bL,bM],defers:=[] } W:=by
 have HQ:=qh hQ;have HW:=qh hW;obtain ⟨tot,hB⟩:∃tot,i::Dk kss g n d i=tot:=⟨_,rfl⟩;have HT:=qh hB;clear hQ hW hB
 conv=>arg 2;whnf
 go_wp2_with fail;go_loopw [15,17] (λdv lv wr=>∃(left:Nat) (l:List Int) (x:Int),dv=int i64 left∧left≤998∧Hid (l.length+left≤d+1)∧Hid (l.getLast?=some x)∧Hid (l++Dk kss g n left x=tot)∧Hid (WayW w S wr N G n F kss ms g lv l)) (λdv _ _=>(intOf dv).toNat)
 case atStart=>exact ⟨d,[i],i,by go_num,hd,qh (by simp;omega),qh rfl,qh HT.out,HW⟩
 case round =>
  obtain ⟨left,l,x,rfl,hX,hC,hx,hD,hW⟩:=hrel
  cases left with
  | zero =>
   have hz:¬((0:Nat):Int) > 0:=by omega
   go_wp2_with fail;refine HQ.out _ _ _ _ _ _ _ _ _ _ _ _ _ _ _ _ _ _ _ _ _ _ _ _ _ _ _ _ _ _ _ _ _ _ _ _ _ _ _ _ ?_;have:=hD.out;rw [Dk,List.append_nil] at this;rw [HT.out,← this];exact hW.out
  | succ left =>
   have hp:(0:Int)<((left+1:Nat):Int):=by omega
   obtain ⟨y,hE,hF⟩:=QH kss g n left l x hx.out tot hD.out;have hG:l≠[]:=λe=>by rw [e] at hx;have:=hx.out;cases this
   have hY:0<l.length:=List.length_pos_iff.2 hG;have hH:x∈l:=List.mem_of_getLast? hx.out;have hI:=hW.out.range x hH;obtain ⟨gb,cap,hv,hA⟩:=I8 hW.out.own (by omega);have hJ:l[l.length-1]?=some x:=by rw [← List.getLast?_eq_getElem?];exact hx.out
   have yl:wr.cell? ⟨gb,l.length-1,none⟩=some (int i64 x):=hA _ _ (by unfold Ci;rw [List.getElem?_map,hJ];rfl);have hO:l.length≤1000:=by have:=hC.out;omega
   have hP:IntKind.i64.wrap ((l.length:Int)-1)=((l.length-1:Nat):Int):=by rw [IntWalk.i64_in _ (by omega)];omega
   have hR:=qh hE;have hS:=qh hF;have hT:=qh hI;clear hE hF hG hH hI hA hJ;subst hv;refine Ae (λK1 hK=>?_);have hL:=qh hK;clear hK;go_wp2_with fail;refine hL.out _ _ ?_;clear hL K1;refine Ae (λK3 hK=>?_);have hM:=qh hK;clear hK;refine wp_block ?_;change Code.wp Tryz.prog (.seq Uf (Ab 1 Ln)) _ _ _;refine Ae (λK4 hK=>?_);have hN:=qh hK;clear hK
   conv=>arg 2;whnf
   go_wp2_with fail;refine hN.out _ _ ?_;clear hN K4;refine UK i (left+1:Nat) x N G n F kss ms g _ l w S wr hW.out hn hO hT.out _ ?_
   intros
   rename_i V hV;refine hM.out _ _ ?_;have HV:=qh hV
   have hU:Hid ((l++((DJ kss g x (left+1:Nat) n).toList.map λk:Nat=>(k:Int))).length+left≤d+1):=qh (by
    have h1:=hC.out;have h2:(DJ kss g x (left+1:Nat) n).toList.length≤1:=by cases DJ kss g x (left+1:Nat) n<;>simp
    rw [List.length_append,List.length_map];omega)
   clear hV hM K3 yl;go_wp2_with fail;go_roundw
   case rel=>exact ⟨left,_,_,by go_num,by omega,hU,hR,hS,HV⟩
   case measure=>simp [intOf]
theorem O5{kss:List (List Int)}{i nn:Int}{j:Nat}{g:Int→Option Int}{x v:Int}(h:En kss i nn j g x=some v):g x=some v∨v=nn:=by
 unfold En at h
 split at h
 ·exact Or.inl h
 ·split at h
  ·unfold F2 at h
   split at h
   ·right;cases h;rfl
   ·exact Or.inl h
  ·exact Or.inl h
theorem KA{kss:List (List Int)}{i nn:Int}{g:Int→Option Int}{x v:Int}:∀{j:Nat},Es kss i nn g j x=some v→g x=some v∨v=nn
 | 0,h=>Or.inl h
 | _+1,h=>(O5 h).elim KA Or.inr
theorem D6{kss:List (List Int)}{i x v:Int}:∀{m:Nat},AN kss i m x=some v→1≤v∧v≤m
 | 0,h=>by cases h
 | m+1,h=>by
  rcases KA h with h|h
  ·have:=D6 h;omega
  ·omega
def D3(kss:List (List Int))(i:Nat):Bool:=(AN kss i kss.length i).isSome
def Bq(kss:List (List Int)):List Int:=match (List.range kss.length).find? (D3 kss) with
 | none=>[]
 | some i=>(i:Int)::Dk kss (AN kss i kss.length) kss.length (((AN kss i kss.length i).getD 1-1).toNat) i
theorem Ih{kss:List (List Int)}(h:∀i,i<kss.length→D3 kss i=false):Bq kss=[]:=by
 unfold Bq
 have:(List.range kss.length).find? (D3 kss)=none:=by
  rw [List.find?_eq_none];intro i hi;rw [h i (by simpa using hi)];simp
 rw [this]
theorem Ii{kss:List (List Int)}{i:Nat}(hi:i<kss.length)(h:∀j,j<i→D3 kss j=false){d:Nat}(hy:AN kss i kss.length i=some ((d+1:Nat):Int)):Bq kss=(i:Int)::Dk kss (AN kss i kss.length) kss.length d i:=by
 unfold Bq
 have:(List.range kss.length).find? (D3 kss)=some i:=by
  rw [List.find?_range_eq_some];exact ⟨by unfold D3;rw [hy];rfl,by simpa using hi,λj hj=>by simpa using h j hj⟩
 rw [this];simp only [hy,Option.getD_some];rw [show (((d+1:Nat):Int)-1).toNat=d by omega]
def IntRow(W:World)(v:Value)(l:List Int):Prop:=(l=[]∧v=.slice none 0 0)∨∃g cap,v=.slice (some ⟨g,0,none⟩) l.length cap∧l≠[]∧l.length≤cap∧cap≤maxLen∧∀(j:Nat) (x:Int),l[j]?=some x→W.cell? ⟨g,j,none⟩=some (int i64 x)
theorem MH{w:World}{B:Nat}{v:Value}{l:List Int}(h:w.ownsRow B 3 1 v l.length (Ci l))(hl:l≠[]):IntRow w v l:=by
 have hp:l.length≠0:=λe=>hl (List.length_eq_zero_iff.1 e)
 have hc:=I8 h hp;rcases h.2 with ⟨rfl,h0⟩|⟨g,cap,cur,rfl,_,_,h3,h4,_⟩
 ·exact absurd h0 hp
 ·obtain ⟨g',cap',e,hA⟩:=hc
  cases e;exact Or.inr ⟨g,cap,rfl,hl,h3,h4,λj x hj=>hA j _ (by unfold Ci;rw [List.getElem?_map,hj];rfl)⟩
theorem QR:Ab 3 bodyB=.seq (bBn 3) (Ab 4 bodyB):=rfl
theorem Mq:Ab 4 bodyB=.seq (bBn 4) (Ab 5 bodyB):=rfl
theorem QS:Ab 5 bodyB=.seq (bBn 5) (Ab 6 bodyB):=rfl
theorem QT:Ab 6 bodyB=.seq (bBn 6) (Ab 7 bodyB):=rfl
theorem FarW.start{w W W1:World}{N G n:Nat}{kss:List (List Int)}{ms:List Nat}(h:NextW w W N G n kss ms)(hl:ms.length=n)(hk:kss.length=n)(h1:W.alloc (.map #[] 0)=W1):FarW w W1 N G n W.heap.size kss ms (λ_=>none):=by
 have b1:Below W.heap.size W W1:=by rw [← h1];exact (Below.refl _ _).alloc (qn _) _
 have hN:=(qs.1 h.box).1;have hG:=(qs.1 h.row).1;exact ⟨h.keep b1,hl,hk,by rw [← h1];exact FarM.new W,h.below.size,λhm=>by have:=h.lts hk hm;omega,by omega,by omega⟩
theorem RL(i N G n:Nat)(kss:List (List Int))(ms:List Nat)(w W:World)(hW:NextW w W N G n kss ms)(hl:ms.length=n)(hJ:kss.length=n)(hn:n≤999)(hi:i<n)(Q:Exit→Act→World→Prop)
  (hN:AN kss i n i=none→∀(x2 x6 x7 x8 x9 bO bP bQ bR bS bT bU bV bW bX bY bZ ca cb cc cd ce cf cg ch ci cj ck cm cn co cp cq cr cs ct cu cv cw cx cy cz cA cB cC cD cE cF cG cH cI cJ cK cL cM cN cO cP cQ cR cS cT cU cV cW cX cY cZ da db dc dd de df dg dh di dj dk dl dm dn dp dq dr ds dt du dv dw dx dy dz dA dB dC dD dE dF dG dH dI dJ dK dL dM dN dO dP dQ dR dS dT dU dV dW dX dY dZ fa:Value) (V:World),NextW w V N G n kss ms→Q (.exit 3) { tmps:=#[e0,e1,x2,.pointer (some ⟨N,0,none⟩),e4,e5,x6,x7,x8,x9,bO,bP,bQ,bR,bS,bT,bU,bV,bW,bX,ek,el,em,en,eo,ep,eq,er,es,et,eu,ev,ew,ex,ey,ez,eA,eB,eC,eD,eE,eF,eG,int i64 i,eH,bY,bZ,ca,cb,cc,cd,ce,cf,cg,ch,ci,cj,ck,cm,cn,co,cp,cq,cr,cs,ct,cu,cv,cw,cx,cy,cz,cA,cB,cC,cD,cE,cF,cG,cH,cI,cJ,cK,cL,cM,cN,cO,cP,cQ,cR,cS,cT,cU,cV,cW,cX,cY,cZ,da,db,dc,dd,de,df,dg,dh,di,dj,dk,dl,dm,dn,dp,dq,dr,ds,dt,du,dv,dw,dx,dy,dz,dA,dB,dC,dD,dE,dF,dG,dH,dI,dJ,dK,dL,dM,dN,dO,dP,dQ,dR,dS,dT,dU,dV,dW,dX,dY,dZ,fa,bN],defers:=[] } V)
  (hR:∀d:Nat,AN kss i n i=some ((d+1:Nat):Int)→∀(v':Value) (x6 x7 x8 x9 bO bP bQ bR bS bT bU bV bW bX bY bZ ca cb cc cd ce cf cg ch ci cj ck cm cn co cp cq cr cs ct cu cv cw cx cy cz cA cB cC cD cE cF cG cH cI cJ cK cL cM cN cO cP cQ cR cS cT cU cV cW cX cY cZ da db dc dd de df dg dh di dj dk dl dm dn dp dq dr ds dt du dv dw dx dy dz dA dB dC dD dE dF dG dH dI dJ dK dL dM dN dO dP dQ dR dS dT dU dV dW dX dY dZ fa:Value) (V:World),Below w.heap.size w V→IntRow V v' ((i:Int)::Dk kss (AN kss i n) n d i)→Q .ret { tmps:=#[e0,e1,v',.pointer (some ⟨N,0,none⟩),e4,e5,x6,x7,x8,x9,bO,bP,bQ,bR,bS,bT,bU,bV,bW,bX,ek,el,em,en,eo,ep,eq,er,es,et,eu,ev,ew,ex,ey,ez,eA,eB,eC,eD,eE,eF,eG,int i64 i,eH,bY,bZ,ca,cb,cc,cd,ce,cf,cg,ch,ci,cj,ck,cm,cn,co,cp,cq,cr,cs,ct,cu,cv,cw,cx,cy,cz,cA,cB,cC,cD,cE,cF,cG,cH,cI,cJ,cK,cL,cM,cN,cO,cP,cQ,cR,cS,cT,cU,cV,cW,cX,cY,cZ,da,db,dc,dd,de,df,dg,dh,di,dj,dk,dl,dm,dn,dp,dq,dr,ds,dt,du,dv,dw,dx,dy,dz,dA,dB,dC,dD,dE,dF,dG,dH,dI,dJ,dK,dL,dM,dN,dO,dP,dQ,dR,dS,dT,dU,dV,dW,dX,dY,dZ,fa,bN],defers:=[] } V) :
  bodyB.wp Tryz.prog Q { tmps:=#[e0,e1,e2,.pointer (some ⟨N,0,none⟩),e4,e5,e6,e7,e8,e9,ea,eb,ec,ed,ee,ef,eg,eh,ei,ej,ek,el,em,en,eo,ep,eq,er,es,et,eu,ev,ew,ex,ey,ez,eA,eB,eC,eD,eE,eF,eG,int i64 i,eH,eI,eJ,eK,eL,eM,eN,eO,eP,eQ,eR,eS,eT,eU,eV,eW,eX,eY,eZ,aa,ab,ac,ae,af,ag,ah,ai,aj,ak,al,am,an,ao,ap,aq,ar,au,av,aw,ax,ay,az,aA,aB,aC,aD,aE,aF,aG,aH,aI,aJ,aK,aL,aM,aN,aO,aP,aQ,aR,aS,aT,aU,aV,aW,aX,aY,aZ,ba,bb,bc,bd,be,bf,bg,bh,bi,bj,bk,bl,bm,bn,bo,bp,bq,br,bs,bt,bu,bv,bw,bx,bz,bA,bB,bC,bD,bE,bF,bG,bH,bI,bJ,bK,bL,bM,bN],defers:=[] } W:=by
 obtain ⟨W1,hI⟩:∃W1,W.alloc (.map #[] 0)=W1:=⟨_,rfl⟩;have hF:=FarW.start hW hl hJ hI;have HN:=qh hN;have HR:=qh hR;have HF:=qh hF;clear hN hR hF hW;have hL:=@run_makeMap Tryz.prog;generalize hM:W.heap.size=F at *;rw [QO];refine Ae (λK hK=>?_);have HK:=qh hK;clear hK
 conv=>arg 2;whnf
 go_wp2_with fail;refine HK.out _ _ ?_;clear HK K;rw [QP];refine Ae (λK hK=>?_);have HK:=qh hK;clear hK
 conv=>arg 2;whnf
 go_wp2_with fail;refine HK.out _ _ ?_;clear HK K hI hL hM;rw [QQ];refine Ae (λK hK=>?_);have HK:=qh hK;clear hK;refine TI i N G n F kss ms w W1 HF.out (by omega) _ ?_
 intros
 rename_i V hV;refine HK.out _ _ ?_;clear HK K;have hD:=hV.far.lookup i;have HV:=qh hV;clear hV;rw [QR];refine Ae (λK hK=>?_);have HK:=qh hK;clear hK
 cases hA:AN kss i n i with
 | none =>
  rw [hA] at hD;have hE:=qh hA;clear hA
  conv=>arg 2;whnf
  go_wp2_with fail;refine HK.out _ _ ?_;clear HK K hD;rw [Mq];refine Ae (λK hK=>?_);have HK:=qh hK;clear hK
  conv=>arg 2;whnf
  go_wp2_with fail;exact HN.out hE.out _ _ _ _ _ _ _ _ _ _ _ _ _ _ _ _ _ _ _ _ _ _ _ _ _ _ _ _ _ _ _ _ _ _ _ _ _ _ _ _ _ _ _ _ _ _ _ _ _ _ _ _ _ _ _ _ _ _ _ _ _ _ _ _ _ _ _ _ _ _ _ _ _ _ _ _ _ _ _ _ _ _ _ _ _ _ _ _ _ _ _ _ _ _ _ _ _ _ _ _ _ _ _ _ _ _ _ _ _ _ _ _ _ _ _ _ _ _ _ _ _ HV.out.next
 | some v0 =>
  have hP:=D6 hA;obtain ⟨d,rfl⟩:∃d:Nat,v0=((d+1:Nat):Int):=⟨(v0-1).toNat,by omega⟩;rw [hA] at hD;have hE:=qh hA;clear hA
  conv=>arg 2;whnf
  go_wp2_with fail;refine HK.out _ _ ?_;clear HK K hD;rw [Mq];refine Ae (λK hK=>?_);have HK:=qh hK;clear hK
  conv=>arg 2;whnf
  go_wp2_with fail;refine HK.out _ _ ?_;clear HK K;rw [QS];refine Ae (λK hK=>?_);have HK:=qh hK;clear hK;obtain ⟨W2,hG⟩:∃W2,V.alloc (.cells #[int i64 (i:Int)] 3)=W2:=⟨_,rfl⟩
  have hB:WayW w V W2 N G n F kss ms (AN kss i n) (.slice (some ⟨V.heap.size,0,none⟩) 1 1) [(i:Int)]:=by
   refine ⟨HV.out,by rw [← hG];exact (Below.refl _ _).alloc (qn _) _,?_,λx hx=>by simp at hx;subst hx;omega⟩;rw [← hG];exact World.ownsRow_lit V #[int i64 (i:Int)] 1 (qn _) (by unfold maxLen;omega) rfl
  have HY:=qh hB;clear hB
  conv=>arg 2;whnf
  go_wp2_with fail;refine HK.out _ _ ?_;clear HK K hG;rw [QT];refine Ae (λK hK=>?_);have HK:=qh hK;clear hK;refine TL i d N G n F kss ms (AN kss i n) _ w V W2 HY.out (by omega) (by omega) _ ?_
  intros
  rename_i V2 hH;refine HK.out _ _ ?_;clear HK K;have hb:=Ad HV.out.next.below (hH.below.mono (qn _))
  have hC:=MH hH.own (by simp);have HB:=qh hb;have hO:=qh hC;clear hH hb hC
  conv=>arg 2;whnf
  go_wp2_with fail;exact HR.out d hE.out _ _ _ _ _ _ _ _ _ _ _ _ _ _ _ _ _ _ _ _ _ _ _ _ _ _ _ _ _ _ _ _ _ _ _ _ _ _ _ _ _ _ _ _ _ _ _ _ _ _ _ _ _ _ _ _ _ _ _ _ _ _ _ _ _ _ _ _ _ _ _ _ _ _ _ _ _ _ _ _ _ _ _ _ _ _ _ _ _ _ _ _ _ _ _ _ _ _ _ _ _ _ _ _ _ _ _ _ _ _ _ _ _ _ _ _ _ _ _ _ _ HB.out hO.out
def Sr(kss:List (List Int))(w:World)(e:Ending)(w':World):Prop:=∃v,e=.returned v∧Below w.heap.size w w'∧IntRow w' v (Bq kss)
theorem Vu:CF=.seq OU (Ab 1 CF):=rfl
theorem UJ(B N G n:Nat)(kss:List (List Int))(ms:List Nat)(w0 w W:World)(hD:Below w0.heap.size w0 w)(hW:NextW w W N G n kss ms)(hl:ms.length=n)(hB:kss.length=n)(hn:n≤999):
  (Ab 3 CF).wp Tryz.prog (bodyPost Tryz.prog Tryz.f23 (Sr kss w0)) { tmps:=#[e0,.pointer (some ⟨B,0,none⟩),.slice none 0 0,.pointer (some ⟨N,0,none⟩),e4,e5,e6,e7,e8,e9,ea,eb,ec,ed,ee,ef,eg,eh,ei,ej,ek,el,em,en,eo,ep,eq,er,es,et,eu,ev,ew,ex,ey,ez,eA,eB,eC,eD,eE,eF,eG,eH,eI,eJ,eK,eL,eM,eN,eO,eP,eQ,eR,eS,eT,eU,eV,eW,eX,eY,eZ,aa,ab,ac,ae,af,ag,ah,ai,aj,ak,al,am,an,ao,ap,aq,ar,au,av,aw,ax,ay,az,aA,aB,aC,aD,aE,aF,aG,aH,aI,aJ,aK,aL,aM,aN,aO,aP,aQ,aR,aS,aT,aU,aV,aW,aX,aY,aZ,ba,bb,bc,bd,be,bf,bg,bh,bi,bj,bk,bl,bm,bn,bo,bp,bq,br,bs,bt,bu,bv,bw,bx,bz,bA,bB,bC,bD,bE,bF,bG,bH,bI,bJ,bK,bL,bM,bN,bO],defers:=[] } W:=by
 have y3:=Aa hW.box 0 rfl;have HW:=qh hW;have hE:=qh hD;clear hW hD;rw [RO];refine Ae (λK hK=>?_);have HK:=qh hK;clear hK
 conv=>arg 2;whnf
 go_wp2_with fail;go_loopw [43] (λiv wr=>∃i:Nat,iv=int i64 i∧i≤n∧Hid (∀j,j<i→D3 kss j=false)∧Hid (NextW w wr N G n kss ms)) (λiv _=>n+1-(intOf iv).toNat)
 case atStart=>exact ⟨0,rfl,Nat.zero_le _,qh (λj hj=>by omega),HW⟩
 case round =>
  obtain ⟨i,rfl,hQ,hC,hF⟩:=hrel;by_cases hN:i<n
  ·have hi:(i:Int)<(n:Int):=by omega
   refine Ae (λK1 hK=>?_);have hG:=qh hK;clear hK;go_wp2_with fail;refine hG.out _ _ ?_;clear hG K1;refine Ae (λK2 hK=>?_);have hH:=qh hK;clear hK;go_wp2_with fail;refine hH.out _ _ ?_;clear hH K2;refine Ae (λK3 hK=>?_);have hI:=qh hK;clear hK;refine wp_block ?_;change Code.wp Tryz.prog bodyB _ _ _;refine RL i N G n kss ms w wr hF.out hl hB hn hN _ (λhJ=>?_) (λd hL=>?_)
   ·intros
    rename_i V hV;refine hI.out _ _ ?_;have HV:=qh hV;have hM:D3 kss i=false:=by unfold D3;rw [hB,hJ];rfl
    have hO:=qh hM;clear hV hI K3 hJ hM;go_wp2_with fail;go_roundw
    case rel=>exact ⟨i+1,by go_num,by omega,qh (λj hj=>by rcases Nat.lt_or_ge j i with h|h;exact hC.out j h;rw [show j=i by omega];exact hO.out),HV⟩
    case measure=>simp [intOf];omega
   ·intros
    rename_i v' _ _ _ _ _ _ _ _ _ _ _ _ _ _ _ _ _ _ _ _ _ _ _ _ _ _ _ _ _ _ _ _ _ _ _ _ _ _ _ _ _ _ _ _ _ _ _ _ _ _ _ _ _ _ _ _ _ _ _ _ _ _ _ _ _ _ _ _ _ _ _ _ _ _ _ _ _ _ _ _ _ _ _ _ _ _ _ _ _ _ _ _ _ _ _ _ _ _ _ _ _ _ _ _ _ _ _ _ _ _ _ _ _ _ _ _ _ _ _ V hP hA;rw [← hB] at hL hA;have hm:=Ii (by omega) hC.out hL;rw [← hm] at hA;refine bodyPost_ret (v:=v') ?_ rfl ⟨v',rfl,Ad hE.out hP,hA⟩;simp [results,Tryz.results23,go_sem]
  ·have:i=n:=by omega
   subst this;have hz:¬(i:Int)<(i:Int):=by omega
   have hm:Bq kss=[]:=Ih (λj hj=>hC.out j (by omega));have HM:=qh hm;clear hm;go_wp2_with fail;refine HK.out _ _ ?_
   conv=>arg 2;whnf
   go_wp2_with fail;go_ret;exact ⟨_,rfl,Ad hE.out hF.out.below,Or.inl ⟨HM.out,rfl⟩⟩
theorem L2(s:Ls)(f:Nm→Int)(w:World)(hA:s.At w)(hU:NumAt f w (Aw s.phrases))(hn:s.phrases.length≤999):Calls Tryz.prog 23 #[s.val] w (Sr (s.nexts f) w):=by
 obtain ⟨W,hW,hB,hE⟩:∃W,w.alloc (.cells s.cells 30)=W∧W.heap[w.heap.size]?=some (.cells s.cells 30 (0,0))∧Below w.heap.size w W:=⟨_,rfl,heap_alloc_new w _,(Below.refl _ w).alloc (qn _) _⟩;have hS:RgS s f w.heap.size W:=⟨hA.below hE,hB,hU.below hE⟩;have y9:W.cell? ⟨w.heap.size,10,none⟩=some (.slice s.fa s.phrases.length s.fc):=Aa hB 10 rfl;have hG:(s.nexts f).length=s.phrases.length:=by simp [Ls.nexts]
 obtain ⟨n,hC⟩:∃n,s.phrases.length=n:=⟨_,rfl⟩;obtain ⟨W1,hH,gW1,bW1,sW1⟩:=Ag W (Array.replicate n (.map none)) 93;obtain ⟨W2,hF,gW2,bW2,sW2⟩:=Ag W1 #[.slice (some ⟨W.heap.size,0,none⟩) n n] 92;have hI:=Ad bW1 bW2
 have hJ:NextW W W2 W1.heap.size W.heap.size n (s.nexts f) []:=by
  refine ⟨hI,by omega,qn _,gW2,?_,Nat.zero_le _,by simp,by simp,List.nodup_nil⟩;rw [← NI];exact Ah bW2 gW1
 have hD:=No n (by omega) W;rw [hH] at hD;have hv:s.val=.agg s.cells:=rfl;rw [hv];have HS:=qh hS;have hO:=qh hJ;have hP:=qh hG;have hQ:=qh hC;have hR:=qh hE;have hL:=qh hF;have hM:=qh hD;rw [hC] at y9;have hN:=qh y9;unfold Ls.cells at hW ⊢;rw [hC] at hW hn ⊢;clear hA hU hS hJ hG hv hB hH gW1 bW1 gW2 bW2 hI hC hE hF hD y9 sW2;go_enter Tryz.func23,Tryz.ntmps23;change Code.wp Tryz.prog CF _ _ _;rw [Vu];refine Ae (λK hK=>?_);have HK:=qh hK;clear hK
 conv=>arg 2;whnf
 go_wp2_with fail;refine HK.out _ _ ?_;clear HK K hW;have y9:=hN.out;have hD:=hM.out;have hF:=hL.out;rw [RM];refine Ae (λK hK=>?_);have HK:=qh hK;clear hK
 conv=>arg 2;whnf
 go_wp2_with fail;rw [← sW1];refine HK.out _ _ ?_;clear HK K hD hF y9 hL hM hN;have hC:=hQ.out;subst hC;rw [RN];refine Ae (λK hK=>?_);have HK:=qh hK;clear hK;refine UI s f w.heap.size W1.heap.size W.heap.size W W2 HS.out (by omega) hO.out _ ?_;intro ms x4 x5 x6 x7 x8 x9 x10 x11 x12 x13 x14 x15 x16 x17 x18 x19 x20 x21 x22 x23 x24 x25 x26 x27 x28 x29 x30 x31 x32 x33 x34 x35 x36 x37 x38 x39 x40 x41 x42 x43 x44 x45 x46 x47 x48 x49 x50 x51 x52 x53 x54 x55 x56 x57 x58 x59 x60 x61 x62 x63 x64 x65 x66 x67 x68 x69 x70 x71 x72 x73 x74 x75 x76 x77 x78 x79 x80 x81 x82 x83 x84 x85 x86 x87 x88 x89 x90 x91 x92 x93 x94 x95 x96 x97 x98 x99 x100 x101 x102 x103 x104 x105 x106 x107 x108 x109 x110 x111 x112 x113 x114 x115 x116 x117 x118 x119 x120 x121 x122 x123 x124 x125 x126 x127 x128 x129 x130 x131 x132 x133 x134 x135 x136 x137 x138 x139 x140 x141 x142 x143 x144 x145 x146 x147 x148 x149 x150 V hV hT;refine HK.out _ _ ?_;clear HK K;exact UJ w.heap.size W1.heap.size W.heap.size s.phrases.length (s.nexts f) ms w W V hR.out hV hT hP.out hn
def Its.sumF(f:Nm→Int)(F:Int→Int):Its→Int→Int
 | .nil,n=>n
 | .cons k nn un its _ r,n=>r.sumF f F (min (n+(if k=1 then 1 else if k=2 then nn*its.sumF f F 0 else if k=3 then its.sumF f F 0 else if k=4 then F (f un) else 0)) 4097)
theorem Its.exB_parts{k n:Int}{un:Nm}{its:Its}{ms:List Mov}{r:Its}(h:(Its.cons k n un its ms r).exB=true):D0 k n=true∧its.exB=true∧r.exB=true:=by
 simp only [Its.exB,Bool.and_eq_true] at h;exact ⟨h.1,h.2.2.2.1.2,h.2.2.2.2⟩
theorem JQ{n:Int}(h:D0 2 n=true):1≤n∧n≤64:=by
 unfold D0 inB at h;simp at h;omega
theorem Its.sumF_bound(f:Nm→Int)(F:Int→Int):∀(T:Its) (n:Int),T.exB=true→(∀u∈T.uses f,0≤F u∧F u≤4097)→0≤n→n≤4097→0≤T.sumF f F n∧T.sumF f F n≤4097
 | .nil,n,_,_,h0,h1=>⟨h0,h1⟩
 | .cons k nn un its ms r,n,hx,hu,h0,h1=>by
  obtain ⟨hn,hi,hr⟩:=Its.exB_parts hx;have hA:=its.sumF_bound f F 0 hi (λu h=>hu u (by simp [Its.uses,h])) (by omega) (by omega);have hF:k=4→0≤F (f un):=λhk=>(hu (f un) (by simp [Its.uses,hk])).1
  unfold Its.sumF
  have hv:0≤(if k=1 then 1 else if k=2 then nn*its.sumF f F 0 else if k=3 then its.sumF f F 0 else if k=4 then F (f un) else 0):=by
   split
   ·omega
   ·split
    ·rename_i h2
     subst h2;exact Int.mul_nonneg (by have:=JQ hn;omega) hA.1
    ·split
     ·exact hA.1
     ·split
      ·rename_i h4;exact hF h4
      ·omega
  exact r.sumF_bound f F _ hr (λu h=>hu u (by simp [Its.uses,h])) (by omega) (by omega)
structure LenW(W:World)(s:Ls)(f:Nm→Int)(B KB M SB PB:Nat)(len:Int→Int):Prop where
 sc:∃w0,RgS s f B w0∧Below w0.heap.size w0 W∧w0.heap.size≤M
 kb:W.heap[KB]?=some (.cells #[.map (some M)] 96 (0,0))
 sb:W.heap[SB]?=some (.cells #[.func (.func 43) #[] #[.pointer (some ⟨SB,0,none⟩),.pointer (some ⟨PB,0,none⟩)]] 98 (0,0))
 pb:W.heap[PB]?=some (.cells #[.func (.func 44) #[] #[.pointer (some ⟨KB,0,none⟩),.pointer (some ⟨SB,0,none⟩),.pointer (some ⟨B,0,none⟩)]] 66 (0,0))
 known:∃g,FarM W M g∧∀x v,g x=some v→v=len x
theorem LenW.score{W:World}{s:Ls}{f:Nm→Int}{B KB M SB PB:Nat}{len:Int→Int}(h:LenW W s f B KB M SB PB len):RgS s f B W:=by
 obtain ⟨w0,h1,h2,_⟩:=h.sc;exact h1.below h2
theorem FarM.isMap{W:World}{F:Nat}{g:Int→Option Int}(h:FarM W F g):EI W F:=by
 obtain ⟨kvs,h1,_⟩:=h;obtain ⟨es,c,h2,_⟩:=h1;exact ⟨es,c,h2⟩
theorem LenW.isMap{W:World}{s:Ls}{f:Nm→Int}{B KB M SB PB:Nat}{len:Int→Int}(h:LenW W s f B KB M SB PB len):EI W M:=by
 obtain ⟨g,h1,_⟩:=h.known;exact h1.isMap
theorem LenW.below{W V:World}{s:Ls}{f:Nm→Int}{B KB M SB PB:Nat}{len:Int→Int}(h:LenW W s f B KB M SB PB len)(hb:Below W.heap.size W V):LenW V s f B KB M SB PB len:=by
 obtain ⟨g,h1,h2⟩:=h.known;obtain ⟨w0,a1,a2,a3⟩:=h.sc;exact ⟨⟨w0,a1,Ad a2 hb,a3⟩,Ah hb h.kb,Ah hb h.sb,Ah hb h.pb,⟨g,h1.of_block (hb.block M h1.lt),h2⟩⟩
theorem D8{w w':World}{m:Nat}(hb:Below w.heap.size w w'):w.grownBy w' (some m):=⟨hb.os,hb.tape,hb.output,hb.size,λk hk _=>hb.block k hk⟩
def JH(s:Ls)(f:Nm→Int)(B KB M SB PB:Nat)(len:Int→Int)(v:Int)(W:World)(e:Ending)(W':World):Prop:=e=.returned (int i64 v)∧LenW W' s f B KB M SB PB len∧W.grownBy W' (some M)
def QM(s:Ls)(f:Nm→Int)(B KB M SB PB:Nat)(len:Int→Int)(us:List Int):Prop:=∀u∈us,∀V,LenW V s f B KB M SB PB len→Calls Tryz.prog 44 #[int i64 u,.pointer (some ⟨KB,0,none⟩),.pointer (some ⟨SB,0,none⟩),.pointer (some ⟨B,0,none⟩)] V (JH s f B KB M SB PB len (len u) V)
theorem Lf(s:Ls)(f:Nm→Int)(B KB M SB PB:Nat)(len:Int→Int)(T:Lt)
  (hI:∀T':Lt,T'.size<T.size→∀(ia:Option Addr) (ic:Nat) (W:World),T'.strip.exB=true→(∀u∈T'.strip.uses f,0≤len u∧len u≤4097)→QM s f B KB M SB PB len (T'.strip.uses f)→(T'.len=0∨ia=some ⟨blk ia,off ia,none⟩)→T'.len≤maxLen→T'.At W (blk ia) (off ia)→NumAt f W (T'.refsL (blk ia) (off ia))→LenW W s f B KB M SB PB len→Calls Tryz.prog 43 #[.slice ia T'.len ic,.pointer (some ⟨SB,0,none⟩),.pointer (some ⟨PB,0,none⟩)] W (JH s f B KB M SB PB len (T'.strip.sumF f len 0) W))
  (ia:Option Addr) (ic:Nat) (W:World) (hx:T.strip.exB=true) (hu:∀u∈T.strip.uses f,0≤len u∧len u≤4097) (hP:QM s f B KB M SB PB len (T.strip.uses f)) (hf:T.len=0∨ia=some ⟨blk ia,off ia,none⟩) (hl:T.len≤maxLen) (hT:T.At W (blk ia) (off ia)) (hU:NumAt f W (T.refsL (blk ia) (off ia))) (hL:LenW W s f B KB M SB PB len):Calls Tryz.prog 43 #[.slice ia T.len ic,.pointer (some ⟨SB,0,none⟩),.pointer (some ⟨PB,0,none⟩)] W (JH s f B KB M SB PB len (T.strip.sumF f len 0) W):=by
 have HI:=qh hI;have HT:=qh hT;have HF:=qh hf;have HU:=qh hU;have HL:=qh hL;have HX:=qh hx;have hg:=qh hu;have HP:=qh hP;clear hI hT hf hU hL hx hu hP;generalize hm:T.len=q at *;have HM:=qh hm;clear hm;unfold maxLen at hl;go_enter Tryz.func43,Tryz.ntmps43;go_wp2_with fail;go_loopw [4,9] (λav iv wr=>∃(j:Nat) (R:Lt) (a:Int),iv=int i64 j∧av=int i64 a∧j+R.len=q∧0≤a∧a≤4097∧Hid (R.size≤T.size)∧Hid (T.strip.sumF f len 0=R.strip.sumF f len a)∧Hid (R.strip.exB=true)∧Hid (∀u∈R.strip.uses f,u∈T.strip.uses f)∧Hid (R.At wr (blk ia) (off ia+j*6))∧Hid (NumAt f wr (R.refsL (blk ia) (off ia+j*6)))∧Hid (LenW wr s f B KB M SB PB len)∧Hid (W.grownBy wr (some M))) (λ_ iv _=>q+1-(intOf iv).toNat)
 case atStart=>exact ⟨0,T,0,rfl,rfl,by rw [HM.out];omega,by omega,by omega,qh (qn _),qh rfl,HX,qh (λ_ h=>h),by simpa [Hid] using HT.out,by simpa [Hid] using HU.out,HL,qh (World.grownBy.refl _ _)⟩
 case round =>
  obtain ⟨j,R,a,rfl,rfl,hh,HS,HV,hj,hH,hp,ha,hR,hK,hb,hB⟩:=hrel
  cases R with
  | nil =>
   simp only [Lt.len,Nat.add_zero] at hh;subst hh;go_wp2_with fail;go_ret;exact ⟨by rw [hH.out];rfl,hb.out,hB.out⟩
  | cons kk nn un ja jc its ma mc ms r =>
   simp only [Lt.len] at hh;have hi:(j:Int)<(q:Int):=by omega
   have e:=HF.out.resolve_left (by omega);obtain ⟨⟨u,g3,hu⟩,_,k2,k3⟩:=hK.out.mov;obtain ⟨⟨g0,g1,g2,g4,g5⟩,_,⟨i1,i2,i3⟩,hr⟩:=hR.out;obtain ⟨hq,hk,hs⟩:=Its.exB_parts hp.out;have ht:its.size<T.size:=by have:=hj.out;simp only [Lt.size] at this;omega
   have hJ:r.size≤T.size:=by have:=hj.out;simp only [Lt.size] at this;omega
   obtain ⟨W2,HW,gW2,bW2,sW2⟩:=Ag wr #[int i64 kk,int i64 nn,sv un,int i64 u,.slice ja its.len jc,.slice ma ms.length mc] 48;have hM:=hb.out.below bW2;have hd:=hM.isMap;have hw:=hb.out.isMap;have he:∀u∈its.strip.uses f,u∈T.strip.uses f:=λv hv=>ha.out v (by simp [Lt.strip,Its.uses,hv])
   have hy:∀u∈r.strip.uses f,u∈T.strip.uses f:=λv hv=>ha.out v (by simp [Lt.strip,Its.uses,hv])
   have hz:=Its.sumF_bound f len its.strip 0 hk (λu h=>hg.out u (he u h)) (by omega) (by omega);have C:=λ(V:World) (hv:W2.grownBy V (some M)) (hc:LenW V s f B KB M SB PB len)=>HI.out its ht ja jc V hk (λu h=>hg.out u (he u h)) (λu h=>HP.out u (he u h)) i1 i2 ((i3.below bW2).grown hd hv) ((k2.below bW2).grown hd hv) hc
   obtain ⟨si,hn⟩:∃si,its.strip.sumF f len 0=si:=⟨_,rfl⟩;rw [hn] at C hz
   have h0:T.strip.sumF f len 0=r.strip.sumF f len (min (a+(if kk=1 then 1 else if kk=2 then nn*si else if kk=3 then si else if kk=4 then len (f un) else 0)) 4097):=by
    rw [hH.out];simp only [Lt.strip,Its.sumF,hn]
   have hN:=qh h0;have HC:=qh C
   have HR:Hid (r.At wr (blk ia) (off ia+(j+1)*6)∧NumAt f wr (r.refsL (blk ia) (off ia+(j+1)*6))):=qh (by
    rw [show off ia+(j+1)*6=off ia+j*6+6 by omega]
    exact ⟨hr,k3⟩)
   have HY:=qh gW2;have hO:=qh bW2;have hQ:=qh hM;have h9:=qh hd;have hS:=qh hJ;have hE:=qh hw;have hV:=qh hs;have hW:=qh hy;have HA:Hid (kk=4→u=f un∧u∈T.strip.uses f):=qh (λh4=>⟨hu h4,by rw [hu h4];exact ha.out _ (by simp [Lt.strip,Its.uses,h4])⟩);have HB:Hid (kk=2→1≤nn∧nn≤64):=qh (λh2=>by subst h2;exact JQ hq);have y0:=Aa gW2 0 rfl;have y1:=Aa gW2 1 rfl;have y3:=Aa gW2 3 rfl;have y4:=Aa gW2 4 rfl;have zs:=Aa hM.sb 0 rfl;have zp:=Aa hM.pb 0 rfl;obtain ⟨h5,HE⟩:=hz;clear C gW2 bW2 sW2 i1 i2 i3 hr ht k2 k3 hR hK ha hj hJ hM hd hw hs hk hq hp hH h0 hy he hn hu hb;generalize HG:blk ia=bb at *;generalize HH:off ia=oo at *;subst e;clear HG HH HF;by_cases h1:kk=1
   ·subst h1
    have hA:Hid (T.strip.sumF f len 0=r.strip.sumF f len (min (a+1) 4097)):=qh (by rw [hN.out,if_pos rfl]);have hD:=D8 (m:=M) hO.out;have hC:=qh hD;clear hD;go_wp2_with fail;go_roundw
    case rel=>exact ⟨j+1,r,_,by go_num,rfl,by omega,by omega,by omega,hS,hA,hV,hW,qh (HR.out.1.grown hE.out hC.out),qh (HR.out.2.grown hE.out hC.out),hQ,qh (Bu hB.out hC.out)⟩
    case measure=>simp [intOf];omega
   ·by_cases h2:kk=2
    ·subst h2
     obtain ⟨HZ,HJ⟩:=HB.out rfl;have hA:Hid (T.strip.sumF f len 0=r.strip.sumF f len (min (a+nn*si) 4097)):=qh (by rw [hN.out,if_neg h1,if_pos rfl]);have Ha:0≤nn*si:=Int.mul_nonneg (by omega) h5;have Hb:nn*si≤64*4097:=Int.mul_le_mul HJ HE h5 (by omega);have HK:IntKind.i64.wrap (nn*si)=nn*si:=IntWalk.i64_in _ (by omega);have HN:IntKind.i64.wrap (a+nn*si)=a+nn*si:=IntWalk.i64_in _ (by omega);go_wp2_with fail;have HD:=qh (And.intro (D8 (m:=M) (Cu W2 W2.heap.size)) (hQ.out.below (Cu W2 W2.heap.size)));have HO:Hid (EI W2.drew M):=qh h9.out;have HQ:Hid (W2.drew.cell? ⟨wr.heap.size,1,none⟩=some (int i64 nn)):=qh y1
     go_region_with (go_at_call 43;refine (HC.out _ HD.out.1 HD.out.2).mono ?_;rintro e V ⟨rfl,hG,hF⟩;have hX:=qh hG;have hY:=qh hF;have zz:=BQ HQ.out HO.out hF;clear hG hF)
     all_goals
      clear HK HN;go_wp2_with fail;have hD:=D7 hO.out (Bu HD.out.1 hY.out);have hC:=qh hD;clear hD;go_roundw
      case rel=>exact ⟨j+1,r,_,by go_num,rfl,by omega,by omega,by omega,hS,hA,hV,hW,qh (HR.out.1.grown hE.out hC.out),qh (HR.out.2.grown hE.out hC.out),hX,qh (Bu hB.out hC.out)⟩
      case measure=>simp [intOf];omega
    ·by_cases h3:kk=3
     ·subst h3
      have hA:Hid (T.strip.sumF f len 0=r.strip.sumF f len (min (a+si) 4097)):=qh (by rw [hN.out,if_neg h1,if_neg h2,if_pos rfl])
      go_wp2_with (go_at_call 43;refine (HC.out _ (World.grownBy.refl _ _) hQ.out).mono ?_;rintro e V ⟨rfl,hG,hF⟩;have hX:=qh hG;have hY:=qh hF;clear hG hF);have hD:=D7 hO.out hY.out;have hC:=qh hD;clear hD;go_roundw
      case rel=>exact ⟨j+1,r,_,by go_num,rfl,by omega,by omega,by omega,hS,hA,hV,hW,qh (HR.out.1.grown hE.out hC.out),qh (HR.out.2.grown hE.out hC.out),hX,qh (Bu hB.out hC.out)⟩
      case measure=>simp [intOf];omega
     ·by_cases h4:kk=4
      ·subst h4
       obtain ⟨h6,ho⟩:=HA.out rfl;have hA:Hid (T.strip.sumF f len 0=r.strip.sumF f len (min (a+len u) 4097)):=qh (by rw [hN.out,if_neg h1,if_neg h2,if_neg h3,if_pos rfl,← h6]);have h7:=hg.out u ho;have h8:=qh (HP.out u ho W2 hQ.out);clear h6 ho;obtain ⟨lu,hZ⟩:∃lu,len u=lu:=⟨_,rfl⟩;rw [hZ] at h8 hA h7;obtain ⟨l0,l1⟩:=h7;clear hZ
       go_wp2_with (go_at_call 44;refine h8.out.mono ?_;rintro e V ⟨rfl,hG,hF⟩;have hX:=qh hG;have hY:=qh hF;clear hG hF);have hD:=D7 hO.out hY.out;have hC:=qh hD;clear hD;go_roundw
       case rel=>exact ⟨j+1,r,_,by go_num,rfl,by omega,by omega,by omega,hS,hA,hV,hW,qh (HR.out.1.grown hE.out hC.out),qh (HR.out.2.grown hE.out hC.out),hX,qh (Bu hB.out hC.out)⟩
       case measure=>simp [intOf];omega
      ·have hA:Hid (T.strip.sumF f len 0=r.strip.sumF f len (min (a+0) 4097)):=qh (by rw [hN.out,if_neg h1,if_neg h2,if_neg h3,if_neg h4])
       have hD:=D8 (m:=M) hO.out;have hC:=qh hD;clear hD;go_wp2_with fail;go_roundw
       case rel=>exact ⟨j+1,r,_,by go_num,by simp,by omega,by omega,by omega,hS,hA,hV,hW,qh (HR.out.1.grown hE.out hC.out),qh (HR.out.2.grown hE.out hC.out),hQ,qh (Bu hB.out hC.out)⟩
       case measure=>simp [intOf];omega
theorem Se(s:Ls)(f:Nm→Int)(B KB M SB PB:Nat)(len:Int→Int):∀(z:Nat) (T:Lt),T.size≤z→∀(ia:Option Addr) (ic:Nat) (W:World),T.strip.exB=true→(∀u∈T.strip.uses f,0≤len u∧len u≤4097)→QM s f B KB M SB PB len (T.strip.uses f)→(T.len=0∨ia=some ⟨blk ia,off ia,none⟩)→T.len≤maxLen→T.At W (blk ia) (off ia)→NumAt f W (T.refsL (blk ia) (off ia))→LenW W s f B KB M SB PB len→Calls Tryz.prog 43 #[.slice ia T.len ic,.pointer (some ⟨SB,0,none⟩),.pointer (some ⟨PB,0,none⟩)] W (JH s f B KB M SB PB len (T.strip.sumF f len 0) W):=by
 intro z
 induction z with
 | zero=>intro T hs;exact Lf s f B KB M SB PB len T (λT' hA=>absurd hA (by omega))
 | succ z ih=>intro T hs;exact Lf s f B KB M SB PB len T (λT' hA=>ih T' (by omega))
theorem Th{kvs:List (Int×Value)}{k:Int}{x0:Value}(h:As kvs k=some x0)(v:Value):As (Bj kvs k v) k=some v:=by
 unfold Bj;rw [h];simp only [Option.isSome_some,if_true];unfold As at h ⊢;rw [List.find?_map]
 have e:((λp=>decide (p.1=k)) ∘ λp=>if p.1=k then (p.1,v) else p)=λp:Int×Value=>decide (p.1=k):=by
  funext p;simp only [Function.comp];split<;>rfl
 rw [e]
 cases hf:kvs.find? (λp=>decide (p.1=k)) with
 | none=>rw [hf] at h;cases h
 | some p =>
  have hp:=List.find?_some hf;have hA:p.1=k:=by simpa using hp
  simp only [Option.map_some,if_pos hA]
theorem FarM.set{W:World}{F:Nat}{g:Int→Option Int}(h:FarM W F g)(k v:Int) :
  ∃W',(Instr.mapUpdate 96 (.map (some F)) (int i64 k) (int i64 v)).run Tryz.prog W=.ok () W'∧FarM W' F (F2 g k v)∧W.grownBy W' (some F):=by
 obtain ⟨kvs,h1,h2,h3⟩:=h;obtain ⟨o,hA,hM⟩:=AF (P:=Tryz.prog) Bc Tryz.underlying96 Tryz.underlying3 h1 h2 k (int i64 v);refine ⟨_,hA,⟨_,hM,AO h2 k _,λx=>?_⟩,Ew W F o⟩;unfold F2;by_cases hx:x=k
 ·subst hx
  rw [if_pos rfl]
  cases hg:As kvs x with
  | none=>rw [Dl hg];rfl
  | some y=>rw [Th hg];rfl
 ·rw [if_neg hx,← h3 x]
  cases hg:As kvs x with
  | none=>exact DG hg (λe=>hx e.symm) _
  | some y=>exact FP hg (λe=>hx e.symm) _
theorem LenW.grown{W V:World}{s:Ls}{f:Nm→Int}{B KB M SB PB:Nat}{len:Int→Int}{g:Int→Option Int}(h:LenW W s f B KB M SB PB len)(hg:W.grownBy V (some M))(hf:FarM V M g)(hk:∀x v,g x=some v→v=len x):LenW V s f B KB M SB PB len:=by
 obtain ⟨w0,a1,a2,a3⟩:=h.sc;exact ⟨⟨w0,a1,a2.grown hg a2.size (λk hk=>by cases hk;exact a3),a3⟩,Cy h.kb h.isMap hg,Cy h.sb h.isMap hg,Cy h.pb h.isMap hg,⟨g,hf,hk⟩⟩
theorem LenW.set{W:World}{s:Ls}{f:Nm→Int}{B KB M SB PB:Nat}{len:Int→Int}(h:LenW W s f B KB M SB PB len)(j v:Int)(hv:len j=v) :
  ∃W',(Instr.mapUpdate 96 (.map (some M)) (int i64 j) (int i64 v)).run Tryz.prog W=.ok () W'∧LenW W' s f B KB M SB PB len∧W.grownBy W' (some M):=by
 obtain ⟨g,h1,h2⟩:=h.known;obtain ⟨W',r1,r2,r3⟩:=h1.set j v;refine ⟨W',r1,h.grown r3 r2 (λx y hA=>?_),r3⟩;unfold F2 at hA
 split at hA
 ·rename_i e;subst e;cases hA;exact hv.symm
 ·exact h2 x y hA
theorem ML(s:Ls)(f:Nm→Int)(B KB M SB PB:Nat)(len:Int→Int)(j:Nat)(p:Ph)(hp:s.phrases[j]?=some p)(_hj:j≤1000)(_hpl:s.phrases.length≤1000)(hx:p.its.strip.exB=true)(hu:∀u∈p.its.strip.uses f,0≤len u∧len u≤4097)(hP:QM s f B KB M SB PB len (p.its.strip.uses f))(hA:len j=p.its.strip.sumF f len 0)
  (W:World) (hL:LenW W s f B KB M SB PB len):Calls Tryz.prog 44 #[int i64 j,.pointer (some ⟨KB,0,none⟩),.pointer (some ⟨SB,0,none⟩),.pointer (some ⟨B,0,none⟩)] W (JH s f B KB M SB PB len (len j) W):=by
 obtain ⟨g,hF,hE⟩:=hL.known;have hI:=hF.lookup j;have y1:=Aa hL.kb 0 rfl
 cases hB:g j with
 | some v =>
  have hv:=hE _ _ hB;rw [hB] at hI;have HV:=qh hv;have HL:=qh hL;clear hp hx hu hP hA hL hF hE hB hv;go_enter Tryz.func44,Tryz.ntmps44;go_wp2_with fail;go_ret;exact ⟨by rw [← HV.out];rfl,HL.out,World.grownBy.refl _ _⟩
 | none =>
  rw [hB] at hI;have ys:=Aa hL.sb 0 rfl;have yb:W.cell? ⟨B,10,none⟩=some (.slice s.fa s.phrases.length s.fc):=Aa hL.score.box 10 rfl;obtain ⟨c0,c1⟩:=Cm hL.score.at_.phrases hp;obtain ⟨i1,i2,i3⟩:=Df hL.score.at_.phrases hp;have hC:NumAt f W (p.its.refsL (blk p.ia) (off p.ia)):=λx hx=>hL.score.nums x (Dr hp hx)
  have hO:=hL.score.at_.pform.resolve_left (λe=>by rw [e] at hp;cases hp);have hQ:j<s.phrases.length:=(ql.1 hp).1;unfold Ph.val at c1;have C:=Se s f B KB M SB PB len _ p.its (qn _) p.ia p.ic W.drew hx hu hP i1 i2 (i3.below (Cu W _)) (hC.below (Cu W _)) (hL.below (Cu W _));rw [← hA] at C;have HC:=qh C;have HL:=qh hL;have hR:Hid (W.grownBy W.drew (some M)):=qh (D8 (Cu W _));obtain ⟨lj,hD⟩:∃lj,len j=lj:=⟨_,rfl⟩;rw [hD] at HC;have hT:=qh hD;have hd:(j:Int)<(s.phrases.length:Int):=by omega
  have hU:Hid (∀V,W.drew.grownBy V (some M)→V.cell? ⟨KB,0,none⟩=some (.map (some M))):=qh (λV hg=>Aa (Cy (w:=W.drew) hL.kb hL.isMap hg) 0 rfl);clear hp hx hu hP hL hF hE hB C i1 i2 i3 hC hQ hA c0;generalize s.phrases.length=n at *;generalize hJ:s.fa=fa at *;have he:=qh hJ;clear hJ;generalize hW:blk fa=fb at *;generalize hX:off fa=fo at *;subst hO;clear hW hX;have hG:=λV (hV:LenW V s f B KB M SB PB len)=>hV.set j lj hD
  have hY:=qh hG;clear hG hD;go_enter Tryz.func44,Tryz.ntmps44;go_wp2_with fail;refine Cf (λw2=>w2=W.drew) 7 (by kernel_rfl) (by kernel_rfl) rfl ?_;intro w2 hS;subst hS;simp only [List.take_succ_cons,List.take_zero,List.drop_succ_cons,List.drop_zero]
  repeat still_step
  refine wpStill_nil ?_
  go_wp2_with (go_at_call 43;refine HC.out.mono ?_;rintro e V ⟨rfl,hK,hH⟩;have hZ:=qh hK;have ha:=qh hH;have yk:=hU.out V hH;clear hK hH;obtain ⟨V',hG,hM,hN⟩:=hY.out V hZ.out;have hb:=qh hM;have hc:=qh hN;clear hM hN);go_ret;exact ⟨by rw [hT.out];rfl,hb.out,Bu hR.out (Bu ha.out hc.out)⟩
structure LenOk(ps:List Ph)(f:Nm→Int)(rk:Nat→Nat)(len:Int→Int):Prop where
 ex:∀(j:Nat) (p:Ph),ps[j]?=some p→p.its.strip.exB=true
 fix:∀(j:Nat) (p:Ph),ps[j]?=some p→len j=p.its.strip.sumF f len 0
 bound:∀j:Nat,j<ps.length→0≤len j∧len j≤4097
 down:∀(j:Nat) (p:Ph),ps[j]?=some p→∀u∈p.its.strip.uses f,∃i:Nat,u=i∧i<ps.length∧rk i<rk j
theorem MK(s:Ls)(f:Nm→Int)(B KB M SB PB:Nat)(rk:Nat→Nat)(len:Int→Int)(h:LenOk s.phrases f rk len)(hA:s.phrases.length≤1000):∀(z j:Nat),rk j≤z→j<s.phrases.length→∀W,LenW W s f B KB M SB PB len→Calls Tryz.prog 44 #[int i64 j,.pointer (some ⟨KB,0,none⟩),.pointer (some ⟨SB,0,none⟩),.pointer (some ⟨B,0,none⟩)] W (JH s f B KB M SB PB len (len j) W):=by
 intro z
 induction z with
 | zero =>
  intro j hz hj W hL;obtain ⟨p,hp⟩:∃p,s.phrases[j]?=some p:=⟨_,qg hj⟩;exact ML s f B KB M SB PB len j p hp (by omega) hA (h.ex j p hp) (λu hu=>by obtain ⟨i,rfl,hi,_⟩:=h.down j p hp u hu;exact h.bound i hi) (λu hu=>by obtain ⟨i,_,_,hr⟩:=h.down j p hp u hu;omega) (h.fix j p hp) W hL
 | succ z ih =>
  intro j hz hj W hL;obtain ⟨p,hp⟩:∃p,s.phrases[j]?=some p:=⟨_,qg hj⟩;exact ML s f B KB M SB PB len j p hp (by omega) hA (h.ex j p hp) (λu hu=>by obtain ⟨i,rfl,hi,_⟩:=h.down j p hp u hu;exact h.bound i hi) (λu hu V hV=>by obtain ⟨i,rfl,hi,hr⟩:=h.down j p hp u hu;exact ih i (by omega) hi V hV) (h.fix j p hp) W hL
theorem Gn(W:World)(b:Nat)(fn:Fn)(f c:Array Value)(x:Value)(hx:W.cell? ⟨b,0,none⟩=some x)(hf:W.frozen? ⟨b,0,none⟩=false):(store ⟨b,0,none⟩ (.func fn f c)).run Tryz.prog W=.ok () (W.setCell ⟨b,0,none⟩ (.func fn f c)):=by
 rw [run_store _ W _ _ _ rfl];simp [hx,hf]
def Vl(s:Ls)(f:Nm→Int)(len:Int→Int)(w:World)(e:Ending)(w':World):Prop:=∃B KB M SB PB,e=.returned (.func (.func 44) #[] #[.pointer (some ⟨KB,0,none⟩),.pointer (some ⟨SB,0,none⟩),.pointer (some ⟨B,0,none⟩)])∧LenW w' s f B KB M SB PB len∧w.heap.size≤M∧Below w.heap.size w w'
theorem Gc(s:Ls)(f:Nm→Int)(len:Int→Int)(w:World)(hA:s.At w)(hU:NumAt f w (Aw s.phrases)):Calls Tryz.prog 24 #[s.val] w (Vl s f len w):=by
 obtain ⟨W0,hH,gB,b0,s0⟩:=Ag w s.cells 30;have hS:RgS s f w.heap.size W0:=⟨hA.below b0,gB,hU.below b0⟩;have hJ:=@run_makeMap Tryz.prog;obtain ⟨W1,hD⟩:∃W1,W0.alloc (.map #[] 0)=W1:=⟨_,rfl⟩;obtain ⟨W2,hK,gK,b2,s2⟩:=Ag W1 #[.map (some W0.heap.size)] 96;obtain ⟨W3,hL,gP,b3,s3⟩:=Ag W2 #[.nilFunc] 66;obtain ⟨W4,hM,gS,b4,s4⟩:=Ag W3 #[.nilFunc] 98;have b1:Below W0.heap.size W0 W1:=by rw [← hD];exact (Below.refl _ _).alloc (qn _) _
 have s1:W1.heap.size=W0.heap.size+1:=by rw [← hD];simp
 obtain ⟨W5,hB⟩:∃W5,W4.setCell ⟨W3.heap.size,0,none⟩ (.func (.func 43) #[] #[.pointer (some ⟨W3.heap.size,0,none⟩),.pointer (some ⟨W2.heap.size,0,none⟩)])=W5:=⟨_,rfl⟩;obtain ⟨W6,hC⟩:∃W6,W5.setCell ⟨W2.heap.size,0,none⟩ (.func (.func 44) #[] #[.pointer (some ⟨W1.heap.size,0,none⟩),.pointer (some ⟨W3.heap.size,0,none⟩),.pointer (some ⟨w.heap.size,0,none⟩)])=W6:=⟨_,rfl⟩;have gP4:=Ah b4 gP;have gP5:W5.heap[W2.heap.size]?=some (.cells #[.nilFunc] 66 (0,0)):=by rw [← hB,Ak _ (by omega)];exact gP4
 have gS5:W5.heap[W3.heap.size]?=some (.cells #[(.func (.func 43) #[] #[.pointer (some ⟨W3.heap.size,0,none⟩),.pointer (some ⟨W2.heap.size,0,none⟩)])] 98 (0,0)):=by rw [← hB,BN _ gS];rfl
 have gP6:W6.heap[W2.heap.size]?=some (.cells #[(.func (.func 44) #[] #[.pointer (some ⟨W1.heap.size,0,none⟩),.pointer (some ⟨W3.heap.size,0,none⟩),.pointer (some ⟨w.heap.size,0,none⟩)])] 66 (0,0)):=by rw [← hC,BN _ gP5];rfl
 have gS6:W6.heap[W3.heap.size]?=some (.cells #[(.func (.func 43) #[] #[.pointer (some ⟨W3.heap.size,0,none⟩),.pointer (some ⟨W2.heap.size,0,none⟩)])] 98 (0,0)):=by rw [← hC,Ak _ (by omega)];exact gS5
 have gK4:=Ah b4 (Ah b3 gK);have gK6:W6.heap[W1.heap.size]?=some (.cells #[.map (some W0.heap.size)] 96 (0,0)):=by rw [← hC,Ak _ (by omega),← hB,Ak _ (by omega)];exact gK4
 have hM1:FarM W1 W0.heap.size (λ_=>none):=by rw [← hD];exact FarM.new W0
 have b14:=Ad b2 (Ad b3 b4);have hE:=hM1.of_block (b14.block W0.heap.size hM1.lt);have hF:FarM W6 W0.heap.size (λ_=>none):=hE.of_block (by rw [← hC,Ak _ (by omega),← hB,Ak _ (by omega)]);have b04:=Ad b1 b14
 have b06:Below W0.heap.size W0 W6:=by
  rw [← hC,← hB];exact (b04.setCell (p:=⟨W3.heap.size,0,none⟩) (by show W0.heap.size≤W3.heap.size;omega) _).setCell (p:=⟨W2.heap.size,0,none⟩) (by show W0.heap.size≤W2.heap.size;omega) _
 have hG:LenW W6 s f w.heap.size W1.heap.size W0.heap.size W3.heap.size W2.heap.size len :=
  ⟨⟨W0,hS,b06,qn _⟩,gK6,gS6,gP6,⟨_,hF,λx v h=>by cases h⟩⟩
 have x4:W4.cell? ⟨W3.heap.size,0,none⟩=some .nilFunc:=Aa gS 0 rfl;have f4:W4.frozen? ⟨W3.heap.size,0,none⟩=false:=(show FreeB W4 W3.heap.size from ⟨_,_,gS⟩).free 0;have x5:W5.cell? ⟨W2.heap.size,0,none⟩=some .nilFunc:=Aa gP5 0 rfl;have f5:W5.frozen? ⟨W2.heap.size,0,none⟩=false:=(show FreeB W5 W2.heap.size from ⟨_,_,gP5⟩).free 0;have st5:=Gn W4 W3.heap.size (.func 43) #[] #[.pointer (some ⟨W3.heap.size,0,none⟩),.pointer (some ⟨W2.heap.size,0,none⟩)] _ x4 f4;have st6:=Gn W5 W2.heap.size (.func 44) #[] #[.pointer (some ⟨W1.heap.size,0,none⟩),.pointer (some ⟨W3.heap.size,0,none⟩),.pointer (some ⟨w.heap.size,0,none⟩)] _ x5 f5;rw [hB] at st5;rw [hC] at st6;have x6:W6.cell? ⟨W2.heap.size,0,none⟩=some (.func (.func 44) #[] #[.pointer (some ⟨W1.heap.size,0,none⟩),.pointer (some ⟨W3.heap.size,0,none⟩),.pointer (some ⟨w.heap.size,0,none⟩)]):=Aa gP6 0 rfl;have hv:s.val=.agg s.cells:=rfl;rw [hv];have HL:=qh hG;have HB:=qh (Ad b0 b06);have hI:Hid (w.heap.size≤W0.heap.size):=qh (by omega);unfold Ls.cells at hH ⊢;clear hG hF hE hM1 b14 b04 b06 gK6 gK4 gS6 gP6 gS5 gP5 gP4 s0 s1 s2 s3 s4 b0 b1 b2 b3 b4 hS gB gK gP gS hA hU hv;go_enter Tryz.func24,Tryz.ntmps24;go_wp2_with fail;go_ret;exact ⟨_,_,_,_,_,rfl,HL.out,hI.out,HB.out⟩
end
end Go.Proofs.YtpnbpepkoekkoaaGreat
