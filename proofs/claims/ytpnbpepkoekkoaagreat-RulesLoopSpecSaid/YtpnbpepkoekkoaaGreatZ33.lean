/- Contracts and plain laws on the way to the statement: part 33. -/
import Derived.Test.YtpnbpepkoekkoaaGreatZ32
import Derived.Defers
import Derived.Laws.Pointers
import Derived.Recover
import Derived.OrdersHeld
import Derived.Deep.RegionHeld
import Derived.BigQuiet
import Derived.Deep.MidRow
import Derived.Test.YtpnbpepkoekkoaaGreatZ3
set_option autoImplicit true
set_option relaxedAutoImplicit true
set_option linter.unusedVariables false
set_option linter.unusedSimpArgs false
set_option maxRecDepth 100000
set_option maxHeartbeats 16000000
namespace Go.Proofs.YtpnbpepkoekkoaaGreat
open Go.Value (int)
open Go.IntKind (i64)
section
open Go Go.RowKit
open Go.RowKit
theorem atP{w:World}{b o i:Nat}{ts:List Pau}{t:Pau}(h:AtRow Fe 4 w b o ts)(ht:ts[i]?=some t) :
  w.cell? ⟨b,o+i*4,none⟩=some (int i64 t.bar)∧w.cell? ⟨b,o+i*4+1,none⟩=some (int i64 t.kind)∧w.cell? ⟨b,o+i*4+2,none⟩=some (int i64 t.lo)∧w.cell? ⟨b,o+i*4+3,none⟩=some (int i64 t.hi) :=
 ⟨h i t ht 0 _ rfl,h i t ht 1 _ rfl,h i t ht 2 _ rfl,h i t ht 3 _ rfl⟩
theorem atC{w:World}{b o i:Nat}{ts:List Con}{t:Con}(h:AtRow F9 4 w b o ts)(ht:ts[i]?=some t) :
  w.cell? ⟨b,o+i*4,none⟩=some (int i64 t.frm)∧w.cell? ⟨b,o+i*4+1,none⟩=some (int i64 t.to)∧w.cell? ⟨b,o+i*4+2,none⟩=some (int i64 t.lo)∧w.cell? ⟨b,o+i*4+3,none⟩=some (int i64 t.hi) :=
 ⟨h i t ht 0 _ rfl,h i t ht 1 _ rfl,h i t ht 2 _ rfl,h i t ht 3 _ rfl⟩
def Cr(c:Clk):Ending:=if CW c=0 then .returned (.tuple #[]) else Ai (CW c)
theorem GB{c:Clk}(h:Ck c=false):Ai 2=Cr c:=by unfold Cr CW;rw [h];rfl
theorem AQ{c:Clk}(h1:Ck c=true)(h:E4 c=false):Ai 130=Cr c:=by unfold Cr CW;rw [h1,h];rfl
theorem P4{c:Clk}(h1:Ck c=true)(h:E4 c=true):Ending.returned (.tuple #[])=Cr c:=by unfold Cr CW;rw [h1,h];rfl
theorem DZ{c:Clk}(h:BP c=false):E4 c=false:=by unfold E4;rw [h];rfl
theorem E0{c:Clk}(h:Bn c.bars (-1) c.tempos=false):E4 c=false:=by unfold E4;rw [h];simp
theorem IU{c:Clk}(h:C0 c.tempos c.bars.toNat=false):E4 c=false:=by unfold E4;rw [h];simp
theorem D5{c:Clk}(h:Bw c.bars (-1) c.pauses=false):E4 c=false:=by unfold E4;rw [h];simp
theorem Cl{c:Clk}(h:c.spans.all (Cs c.bars)=false):E4 c=false:=by unfold E4;rw [h];simp
theorem Om{c:Clk}(h1:BP c=true)(h2:Bn c.bars (-1) c.tempos=true)(h3:C0 c.tempos c.bars.toNat=true)(h4:Bw c.bars (-1) c.pauses=true)(h5:c.spans.all (Cs c.bars)=true):E4 c=true:=by
 unfold E4;rw [h1,h2,h3,h4,h5];rfl
theorem Fz{l:List Tmp}{k n:Nat}(h:C0 l (k+1)=false)(hk:k+1≤n):C0 l n=false:=by
 induction n with
 | zero=>omega
 | succ n ih =>
  rcases Nat.lt_or_ge n (k+1) with h1|h1
  ·have:n=k:=by omega
   subst this;exact h
  ·unfold C0;rw [ih h1];rfl
theorem DN{l:List Tmp}{k:Nat}{b:Bool}(h:C0 l k=true)(hb:inB (Bm l k) 1 65536=b):C0 l (k+1)=b:=by
 unfold C0;rw [h,hb];rfl
theorem AJ{α:Type}{l:List α}{k:Nat}{x:α}(h:l[k]?=some x):l.drop k=x::l.drop (k+1):=by
 obtain ⟨h1,h2⟩:=ql.1 h;rw [← h2];exact List.drop_eq_getElem_cons h1
theorem CD{bars:Int}:∀{l:List Tmp} {last:Int},Bn bars last l=true→Ez l∧∀t∈l,last<t.bar∧t.bar≤bars-1∧-65536≤t.ticks∧t.ticks≤65536∧-65536≤t.step∧t.step≤65536
 | [],_,_=>⟨List.Pairwise.nil,λ_ h=>by cases h⟩
 | t::r,last,h=>by
  unfold Bn IQ at h;simp only [Bool.and_eq_true,AR] at h;obtain ⟨⟨⟨h1,h2⟩,h3⟩,h4⟩:=h;obtain ⟨i1,i2⟩:=CD h4;refine ⟨List.pairwise_cons.2 ⟨λx hx=>(i2 x hx).1,i1⟩,λx hx=>?_⟩;rcases List.mem_cons.1 hx with rfl|hx
  ·omega
  ·have:=i2 x hx;omega
theorem FD{l:List Tmp}{t:Tmp}{bar:Int}(h:l[0]?=some t)(h0:t.bar≤bar):0<Co l bar:=by
 unfold Co;exact List.countP_pos_iff.2 ⟨t,List.mem_of_getElem? h,by simpa using h0⟩
theorem KF{c:Clk}{t:Tmp}(h:c.tempos[0]?=some t)(hb:¬t.bar=0):BP c=false:=by
 unfold BP
 cases hc:c.tempos with
 | nil=>simp
 | cons a r=>rw [hc] at h;simp at h;subst h;simp [hb]
theorem MC{c:Clk}{t:Tmp}(h1:inB c.bars 1 4096=true)(h:c.tempos[0]?=some t)(hb:t.bar=0):BP c=true:=by
 unfold BP;rw [h1]
 cases hc:c.tempos with
 | nil=>rw [hc] at h;simp at h
 | cons a r=>rw [hc] at h;simp at h;subst h;simp [hb]
theorem EB{c:Clk}(h:4096<c.tempos.length∨4096<c.pauses.length∨256<c.spans.length):Ck c=false:=by
 unfold Ck;rcases h with h|h|h
 ·rw [decide_eq_false (by omega:¬c.tempos.length≤4096)];rfl
 ·rw [decide_eq_false (by omega:¬c.pauses.length≤4096)];simp
 ·rw [decide_eq_false (by omega:¬c.spans.length≤256)];simp
theorem KK{c:Clk}(h1:c.tempos.length≤4096)(h2:c.pauses.length≤4096)(h3:c.spans.length≤256):Ck c=true:=by
 unfold Ck;rw [decide_eq_true h1,decide_eq_true h2,decide_eq_true h3];rfl
theorem Iv(bars:Int)(aT aP aS:Option Addr)(cT cP cS:Nat)(ts:List Tmp)(ps:List Pau)(ss:List Con)(w:World)
  (hT:IsRow DP 3 w (.slice aT ts.length cT) ts) (hP:IsRow Fe 4 w (.slice aP ps.length cP) ps) (hS:IsRow F9 4 w (.slice aS ss.length cS) ss) (hF:ts.length<ps.length) (hE:4096<ps.length) :
  Calls Tryz.prog 39 #[.agg #[int i64 bars,.slice aT ts.length cT,.slice aP ps.length cP,.slice aS ss.length cS]] w λe w'=>e=Cr ⟨bars,ts,ps,ss⟩∧Below w.heap.size w w':=by
 generalize hA:(⟨bars,ts,ps,ss⟩:Clk)=clk;have k1:clk.bars=bars:=by rw [← hA]
 have k2:clk.tempos=ts:=by rw [← hA]
 have k3:clk.pauses=ps:=by rw [← hA]
 have k4:clk.spans=ss:=by rw [← hA]
 have K1:=qh k1;have K2:=qh k2;have K3:=qh k3;have K4:=qh k4;clear hA k1 k2 k3 k4;obtain ⟨_,_,_,lT,_⟩:=id hT;obtain ⟨_,_,_,lP,_⟩:=id hP;obtain ⟨_,_,_,lS,_⟩:=id hS;unfold maxLen at lT lP lS;have HT:=qh hT;have HP:=qh hP;have HS:=qh hS;clear hT hP hS;generalize hB:ts.length=nT at *;generalize hC:ps.length=nP at *;generalize hD:ss.length=nS at *;have NT:=qh hB;have NP:=qh hC;have NS:=qh hD;clear hB hC hD;have b0:Below w.heap.size w (w.alloc (.cells #[int i64 bars,.slice aT nT cT,.slice aP nP cP,.slice aS nS cS] 63)):=(Below.refl _ w).alloc (qn _) _;have g0:=heap_alloc_new w (.cells #[int i64 bars,.slice aT nT cT,.slice aP nP cP,.slice aS nS cS] 63);have hG:w.heap.size<(w.alloc (.cells #[int i64 bars,.slice aT nT cT,.slice aP nP cP,.slice aS nS cS] 63)).heap.size:=by simp
 go_enter Tryz.func39,Tryz.ntmps39;go_wp2_with fail;generalize w.alloc (.cells #[int i64 bars,.slice aT nT cT,.slice aP nP cP,.slice aS nS cS] 63)=w0 at *;have HB:=qh b0;have G0:=qh g0;clear b0;have c0:w0.cell? ⟨w.heap.size,0,none⟩=some (int i64 bars):=Aa g0 0 rfl;have c1:w0.cell? ⟨w.heap.size,1,none⟩=some (.slice aT nT cT):=Aa g0 1 rfl;have c2:w0.cell? ⟨w.heap.size,2,none⟩=some (.slice aP nP cP):=Aa g0 2 rfl;have c3:w0.cell? ⟨w.heap.size,3,none⟩=some (.slice aS nS cS):=Aa g0 3 rfl;clear g0;refine (Ay 2 _).mono ?_;rintro e w' ⟨rfl,rfl⟩;unfold Ai;go_wp2_with fail;exact ⟨rfl,GB (EB (by rw [K2.out,K3.out,K4.out,NT.out,NP.out,NS.out];omega)),HB.out⟩
theorem Iy(bars:Int)(aT aP aS:Option Addr)(cT cP cS:Nat)(ts:List Tmp)(ps:List Pau)(ss:List Con)(w:World)
  (hT:IsRow DP 3 w (.slice aT ts.length cT) ts) (hP:IsRow Fe 4 w (.slice aP ps.length cP) ps) (hS:IsRow F9 4 w (.slice aS ss.length cS) ss) (hF:ts.length<ps.length) (hG:ps.length≤4096) (hE:256<ss.length) :
  Calls Tryz.prog 39 #[.agg #[int i64 bars,.slice aT ts.length cT,.slice aP ps.length cP,.slice aS ss.length cS]] w λe w'=>e=Cr ⟨bars,ts,ps,ss⟩∧Below w.heap.size w w':=by
 generalize hA:(⟨bars,ts,ps,ss⟩:Clk)=clk;have k1:clk.bars=bars:=by rw [← hA]
 have k2:clk.tempos=ts:=by rw [← hA]
 have k3:clk.pauses=ps:=by rw [← hA]
 have k4:clk.spans=ss:=by rw [← hA]
 have K1:=qh k1;have K2:=qh k2;have K3:=qh k3;have K4:=qh k4;clear hA k1 k2 k3 k4;obtain ⟨_,_,_,lT,_⟩:=id hT;obtain ⟨_,_,_,lP,_⟩:=id hP;obtain ⟨_,_,_,lS,_⟩:=id hS;unfold maxLen at lT lP lS;have HT:=qh hT;have HP:=qh hP;have HS:=qh hS;clear hT hP hS;generalize hB:ts.length=nT at *;generalize hC:ps.length=nP at *;generalize hD:ss.length=nS at *;have NT:=qh hB;have NP:=qh hC;have NS:=qh hD;clear hB hC hD;have b0:Below w.heap.size w (w.alloc (.cells #[int i64 bars,.slice aT nT cT,.slice aP nP cP,.slice aS nS cS] 63)):=(Below.refl _ w).alloc (qn _) _;have g0:=heap_alloc_new w (.cells #[int i64 bars,.slice aT nT cT,.slice aP nP cP,.slice aS nS cS] 63);have hH:w.heap.size<(w.alloc (.cells #[int i64 bars,.slice aT nT cT,.slice aP nP cP,.slice aS nS cS] 63)).heap.size:=by simp
 have fS:decide ((nS:Int)≤256)=false:=by simpa using by omega
 have fM:((nP:Nat):Int)≤4096:=by omega
 go_enter Tryz.func39,Tryz.ntmps39;go_wp2_with fail;generalize w.alloc (.cells #[int i64 bars,.slice aT nT cT,.slice aP nP cP,.slice aS nS cS] 63)=w0 at *;have HB:=qh b0;have G0:=qh g0;clear b0;have c0:w0.cell? ⟨w.heap.size,0,none⟩=some (int i64 bars):=Aa g0 0 rfl;have c1:w0.cell? ⟨w.heap.size,1,none⟩=some (.slice aT nT cT):=Aa g0 1 rfl;have c2:w0.cell? ⟨w.heap.size,2,none⟩=some (.slice aP nP cP):=Aa g0 2 rfl;have c3:w0.cell? ⟨w.heap.size,3,none⟩=some (.slice aS nS cS):=Aa g0 3 rfl;clear g0;refine (Ay 2 _).mono ?_;rintro e w' ⟨rfl,rfl⟩;unfold Ai;go_wp2_with fail;exact ⟨rfl,GB (EB (by rw [K2.out,K3.out,K4.out,NT.out,NP.out,NS.out];omega)),HB.out⟩
theorem IA(bars:Int)(aT aP aS:Option Addr)(cT cP cS:Nat)(ts:List Tmp)(ps:List Pau)(ss:List Con)(w:World)
  (hT:IsRow DP 3 w (.slice aT ts.length cT) ts) (hP:IsRow Fe 4 w (.slice aP ps.length cP) ps) (hS:IsRow F9 4 w (.slice aS ss.length cS) ss) (hx:ts.length<ps.length) (hy:ps.length≤4096) (hn:ss.length≤256) :
  Calls Tryz.prog 39 #[.agg #[int i64 bars,.slice aT ts.length cT,.slice aP ps.length cP,.slice aS ss.length cS]] w λe w'=>e=Cr ⟨bars,ts,ps,ss⟩∧Below w.heap.size w w':=by
 generalize hH:(⟨bars,ts,ps,ss⟩:Clk)=clk;have k1:clk.bars=bars:=by rw [← hH]
 have k2:clk.tempos=ts:=by rw [← hH]
 have k3:clk.pauses=ps:=by rw [← hH]
 have k4:clk.spans=ss:=by rw [← hH]
 have K1:=qh k1;have K2:=qh k2;have K3:=qh k3;have K4:=qh k4;clear hH k1 k2 k3 k4;obtain ⟨_,_,_,lT,_⟩:=id hT;obtain ⟨_,_,_,lP,_⟩:=id hP;obtain ⟨_,_,_,lS,_⟩:=id hS;unfold maxLen at lT lP lS;have HT:=qh hT;have HP:=qh hP;have HS:=qh hS;clear hT hP hS;generalize hb:ts.length=nT at *;generalize hc:ps.length=nP at *;generalize hd:ss.length=nS at *;have NT:=qh hb;have NP:=qh hc;have NS:=qh hd;clear hb hc hd;have b0:Below w.heap.size w (w.alloc (.cells #[int i64 bars,.slice aT nT cT,.slice aP nP cP,.slice aS nS cS] 63)):=(Below.refl _ w).alloc (qn _) _;have g0:=heap_alloc_new w (.cells #[int i64 bars,.slice aT nT cT,.slice aP nP cP,.slice aS nS cS] 63);have hf:w.heap.size<(w.alloc (.cells #[int i64 bars,.slice aT nT cT,.slice aP nP cP,.slice aS nS cS] 63)).heap.size:=by simp
 have fS:decide ((nS:Int)≤256)=true:=by simpa using by omega
 have fM:((nP:Nat):Int)≤4096:=by omega
 have LIM:Hid (Ck clk=true):=qh (KK (by rw [K2.out,NT.out];omega) (by rw [K3.out,NP.out];omega) (by rw [K4.out,NS.out];omega));go_enter Tryz.func39,Tryz.ntmps39;go_wp2_with fail;generalize w.alloc (.cells #[int i64 bars,.slice aT nT cT,.slice aP nP cP,.slice aS nS cS] 63)=w0 at *;have HB:=qh b0;have G0:=qh g0;clear b0;have c0:w0.cell? ⟨w.heap.size,0,none⟩=some (int i64 bars):=Aa g0 0 rfl;have c1:w0.cell? ⟨w.heap.size,1,none⟩=some (.slice aT nT cT):=Aa g0 1 rfl;have c2:w0.cell? ⟨w.heap.size,2,none⟩=some (.slice aP nP cP):=Aa g0 2 rfl;have c3:w0.cell? ⟨w.heap.size,3,none⟩=some (.slice aS nS cS):=Aa g0 3 rfl;clear g0;refine (BY 2 _).mono ?_;rintro e w' ⟨rfl,rfl⟩;clear fS fM;go_wp2_with fail;refine (Bg bars 1 4096 _).mono ?_;rintro e w' ⟨rfl,rfl⟩
 cases h1:inB bars 1 4096 with
 | false =>
  go_wp2_with fail;refine (Ay 130 _).mono ?_;rintro e w' ⟨rfl,rfl⟩;unfold Ai;go_wp2_with fail;exact ⟨rfl,AQ LIM.out (DZ (by unfold BP;rw [K1.out,h1];rfl)),HB.out⟩
 | true =>
  have H1:=qh h1;obtain ⟨ho,hp⟩:=AR.1 h1;clear h1;obtain ⟨B,hB⟩:∃B:Nat,bars=(B:Int):=⟨bars.toNat,by omega⟩;subst hB;have hz:B≤4096:=by omega
  have h3:1≤B:=by omega
  clear ho hp;by_cases hq:0<nT
  rotate_left
  ·have f0:¬(0:Int)<(nT:Int):=by omega
   have he:ts=[]:=List.length_eq_zero_iff.1 (by rw [NT.out];omega);go_wp2_with fail;refine (Ay 130 _).mono ?_;rintro e w' ⟨rfl,rfl⟩;unfold Ai;go_wp2_with fail;exact ⟨rfl,AQ LIM.out (DZ (by unfold BP;rw [K1.out,K2.out,he];simp)),HB.out⟩
  obtain ⟨t0,hO⟩:∃t,ts[0]?=some t:=⟨_,qg (by rw [NT.out];exact hq)⟩;obtain ⟨b,o,hr,hh,hQ⟩:=HT.out.block hO;subst hr;have hR:=qh hh;clear hh;have hs:(0:Int)<(nT:Int):=by omega
  have p0:w0.cell? ⟨b,o,none⟩=some (int i64 t0.bar):=by
   have:=(atT (hR.out.below HB.out hQ) hO).1;simpa using this
  have hU:=qh hO;clear hO;by_cases h0:t0.bar=0
  rotate_left
  ·have f0:(t0.bar==0)=false:=by simpa using h0
   have HH:=qh h0;clear h0;go_wp2_with fail;refine (Ay 130 _).mono ?_;rintro e w' ⟨rfl,rfl⟩;unfold Ai;go_wp2_with fail;exact ⟨rfl,AQ LIM.out (DZ (KF (by rw [K2.out];exact hU.out) HH.out)),HB.out⟩
  have f0:(t0.bar==0)=true:=by simpa using h0
  have HH:=qh h0;clear h0;have hV:Hid (BP clk=true):=qh (MC (by rw [K1.out];exact H1.out) (by rw [K2.out];exact hU.out) HH.out);go_wp2_with fail;refine (BY 130 _).mono ?_;rintro e w' ⟨rfl,rfl⟩;clear f0 p0;go_wp2_with fail;clear c0 c1 c2 c3;go_loopw [2,46] (λlv iv wr=>∃(k:Nat) (last:Int),k≤nT∧iv=int i64 k∧lv=int i64 last∧-1≤last∧last≤4096∧Hid (Bn B (-1) ts=Bn B last (ts.drop k))∧w.heap.size<wr.heap.size∧Hid (wr.heap[w.heap.size]?=some (.cells #[int i64 (B:Int),.slice (some ⟨b,o,none⟩) nT cT,.slice aP nP cP,.slice aS nS cS] 63 (0,0)))∧Hid (Below w.heap.size w wr)) (λ_ iv _=>nT-(intOf iv).toNat)
  case atStart=>exact ⟨0,-1,Nat.zero_le _,rfl,rfl,by omega,by omega,qh rfl,hf,G0,HB⟩
  case round =>
   clear HB G0 hf;obtain ⟨k,last,hk,rfl,rfl,hW,hX,hD,hG,hA,hC⟩:=hrel;by_cases hL:k<nT
   ·obtain ⟨t,ht⟩:∃t,ts[k]?=some t:=⟨_,qg (by rw [NT.out];exact hL)⟩
    obtain ⟨p0,p1,p2⟩:=atT (hR.out.below hC.out hQ) ht;have hl:b<wr.heap.size:=by have:=hC.out.size;omega
    have hF:=qh ht;clear ht;have hM:(k:Int)<(nT:Int):=by omega
    have c0:wr.cell? ⟨w.heap.size,0,none⟩=some (int i64 (B:Int)):=Aa hA.out 0 rfl;have x0:=(Below.heap_alloc wr (.cells #[int i64 t.bar,int i64 t.ticks,int i64 t.step] 80) w.heap.size hG).trans hA.out;have x2:=heap_alloc_new wr (.cells #[int i64 t.bar,int i64 t.ticks,int i64 t.step] 80);have x3:Below w.heap.size w (wr.alloc (.cells #[int i64 t.bar,int i64 t.ticks,int i64 t.step] 80)):=hC.out.alloc (by omega) _;have x4:w.heap.size<(wr.alloc (.cells #[int i64 t.bar,int i64 t.ticks,int i64 t.step] 80)).heap.size:=by simp;omega
    have X0:=qh x0;have X2:=qh x2;have hE:=qh x3;clear x0 x2 x3;go_wp2_with fail;generalize wr.alloc (.cells #[int i64 t.bar,int i64 t.ticks,int i64 t.step] 80)=w5 at *;generalize wr.heap.size=gw at *;clear c0 p0 p1 p2;have c0:w5.cell? ⟨w.heap.size,0,none⟩=some (int i64 (B:Int)):=Aa X0.out 0 rfl;have l0:w5.cell? ⟨gw,0,none⟩=some (int i64 t.bar):=Aa X2.out 0 rfl;have l1:w5.cell? ⟨gw,1,none⟩=some (int i64 t.ticks):=Aa X2.out 1 rfl;have l2:w5.cell? ⟨gw,2,none⟩=some (int i64 t.step):=Aa X2.out 2 rfl;clear X2 hA hC;refine (Bg t.bar (last+1) ((B:Int)-1) _).mono ?_;rintro e w' ⟨rfl,rfl⟩
    cases q0:inB t.bar (last+1) ((B:Int)-1) with
    | false =>
     go_wp2_with fail;refine (Ay 130 _).mono ?_;rintro e w' ⟨rfl,rfl⟩;unfold Ai;go_wp2_with fail;exact ⟨rfl,AQ LIM.out (E0 (by rw [K1.out,K2.out,hD.out,AJ hF.out];simp [Bn,IQ,q0])),hE.out⟩
    | true =>
     have Q0:=qh q0;clear q0;go_wp2_with fail;refine (Bg t.ticks (-65536) 65536 _).mono ?_;rintro e w' ⟨rfl,rfl⟩
     cases q1:inB t.ticks (-65536) 65536 with
     | false =>
      go_wp2_with fail;refine (Ay 130 _).mono ?_;rintro e w' ⟨rfl,rfl⟩;unfold Ai;go_wp2_with fail;exact ⟨rfl,AQ LIM.out (E0 (by rw [K1.out,K2.out,hD.out,AJ hF.out];simp [Bn,IQ,Q0.out,q1])),hE.out⟩
     | true =>
      have Q1:=qh q1;clear q1;go_wp2_with fail;refine (Bg t.step (-65536) 65536 _).mono ?_;rintro e w' ⟨rfl,rfl⟩
      cases q2:inB t.step (-65536) 65536 with
      | false =>
       go_wp2_with fail;refine (Ay 130 _).mono ?_;rintro e w' ⟨rfl,rfl⟩;unfold Ai;go_wp2_with fail;exact ⟨rfl,AQ LIM.out (E0 (by rw [K1.out,K2.out,hD.out,AJ hF.out];simp [Bn,IQ,Q0.out,Q1.out,q2])),hE.out⟩
      | true =>
       have Q2:=qh q2;clear q2;go_wp2_with fail;refine (BY 130 _).mono ?_;rintro e w' ⟨rfl,rfl⟩;go_wp2_with fail;go_roundw
       case rel=>exact ⟨k+1,t.bar,by omega,by go_num,rfl,by have:=AR.1 Q0.out;omega,by have:=AR.1 Q0.out;omega,qh (by rw [hD.out,AJ hF.out];simp [Bn,IQ,Q0.out,Q1.out,Q2.out]),x4,X0,hE⟩
       case measure=>simp [intOf];omega
   ·obtain rfl:nT=k:=by omega
    have hK:¬(nT:Int)<(nT:Int):=by omega
    have TM:Hid (Bn B (-1) ts=true):=qh (by rw [hD.out,List.drop_of_length_le (by rw [NT.out];exact qn _)];rfl);clear hD hW hX;have ⟨hm,hN⟩:=CD TM.out;have NW:Hid (∀j:Nat,j<B→GI ts j):=qh (λj hj=>⟨hm,FD hU.out (by rw [HH.out];omega),by omega,by omega,λt ht=>by have:=hN t ht;omega⟩);clear hm hN;have c0:wr.cell? ⟨w.heap.size,0,none⟩=some (int i64 (B:Int)):=Aa hA.out 0 rfl;go_wp2_with fail;clear c0 hK;go_loopw [74] (λiv wr=>∃j:Nat,j≤B∧iv=int i64 j∧Hid (C0 ts j=true)∧w.heap.size<wr.heap.size∧Hid (wr.heap[w.heap.size]?=some (.cells #[int i64 (B:Int),.slice (some ⟨b,o,none⟩) nT cT,.slice aP nP cP,.slice aS nS cS] 63 (0,0)))∧Hid (Below w.heap.size w wr)) (λiv _=>B-(intOf iv).toNat)
    case atStart=>exact ⟨0,Nat.zero_le _,rfl,qh rfl,hG,hA,hC⟩
    case round =>
     clear hA hC hG;obtain ⟨j,hj,rfl,hY,hG,hA,hC⟩:=hrel;by_cases hu:j<B
     ·have hv:(j:Int)<(B:Int):=by omega
      have c0:wr.cell? ⟨w.heap.size,0,none⟩=some (int i64 (B:Int)):=Aa hA.out 0 rfl;have c1:wr.cell? ⟨w.heap.size,1,none⟩=some (.slice (some ⟨b,o,none⟩) nT cT):=Aa hA.out 1 rfl;have c2:wr.cell? ⟨w.heap.size,2,none⟩=some (.slice aP nP cP):=Aa hA.out 2 rfl;have c3:wr.cell? ⟨w.heap.size,3,none⟩=some (.slice aS nS cS):=Aa hA.out 3 rfl;go_wp2_with fail;refine (JC B j b o nT cT (.slice aP nP cP) (.slice aS nS cS) ts wr NT.out (by omega) (hR.out.below hC.out hQ) (by have:=hC.out.size;omega) (NW.out j hu)).mono ?_;rintro e w5 ⟨rfl,b5⟩;have hw:=b5.size;have x0:=(b5.block _ hG).trans hA.out;have hE:=qh (hC.out.trans (b5.mono (by omega)));have X0:=qh x0;have hZ:w.heap.size<w5.heap.size:=by omega
      clear x0 b5 c0 c1 c2 c3 hA hC hw;generalize hg:Bm ts j=g;have HG:=qh hg;clear hg;go_wp2_with fail;refine (Bg g 1 65536 _).mono ?_;rintro e w' ⟨rfl,rfl⟩
      cases h2:inB g 1 65536 with
      | false =>
       go_wp2_with fail;refine (Ay 130 _).mono ?_;rintro e w' ⟨rfl,rfl⟩;unfold Ai;go_wp2_with fail;exact ⟨rfl,AQ LIM.out (IU (by rw [K2.out,K1.out,Int.toNat_natCast];exact Fz (DN hY.out (by rw [HG.out];exact h2)) (by omega))),hE.out⟩
      | true =>
       have H2:=qh h2;clear h2;go_wp2_with fail;refine (BY 130 _).mono ?_;rintro e w' ⟨rfl,rfl⟩;go_wp2_with fail;go_roundw
       case rel=>exact ⟨j+1,by omega,by go_num,qh (DN hY.out (by rw [HG.out];exact H2.out)),hZ,X0,hE⟩
       case measure=>simp [intOf];omega
     ·obtain rfl:B=j:=by omega
      have hK:¬(B:Int)<(B:Int):=by omega
      have c2:wr.cell? ⟨w.heap.size,2,none⟩=some (.slice aP nP cP):=Aa hA.out 2 rfl;go_wp2_with fail;clear c2 hK;go_loopw [2,86] (λlv iv wr=>∃(i:Nat) (last:Int),i≤nP∧iv=int i64 i∧lv=int i64 last∧-1≤last∧last≤4096∧Hid (Bw B (-1) ps=Bw B last (ps.drop i))∧w.heap.size<wr.heap.size∧Hid (wr.heap[w.heap.size]?=some (.cells #[int i64 (B:Int),.slice (some ⟨b,o,none⟩) nT cT,.slice aP nP cP,.slice aS nS cS] 63 (0,0)))∧Hid (Below w.heap.size w wr)) (λ_ iv _=>nP-(intOf iv).toNat)
      case atStart=>exact ⟨0,-1,Nat.zero_le _,rfl,rfl,by omega,by omega,qh rfl,hG,hA,hC⟩
      case round =>
       clear hG hA hC;obtain ⟨i,last,hi,rfl,rfl,hW,hX,hD,hG,hA,hC⟩:=hrel;by_cases hL:i<nP
       ·obtain ⟨t,ht⟩:∃t,ps[i]?=some t:=⟨_,qg (by rw [NP.out];exact hL)⟩
        obtain ⟨bp,op,ha,hI,hJ⟩:=HP.out.block ht;subst ha;obtain ⟨p0,p1,p2,p3⟩:=atP (hI.below hC.out hJ) ht;have hl:bp<wr.heap.size:=by have:=hC.out.size;omega
        clear hI;have hF:=qh ht;clear ht;have hM:(i:Int)<(nP:Int):=by omega
        have c0:wr.cell? ⟨w.heap.size,0,none⟩=some (int i64 (B:Int)):=Aa hA.out 0 rfl;have x0:=(Below.heap_alloc wr (.cells #[int i64 t.bar,int i64 t.kind,int i64 t.lo,int i64 t.hi] 124) w.heap.size hG).trans hA.out;have x2:=heap_alloc_new wr (.cells #[int i64 t.bar,int i64 t.kind,int i64 t.lo,int i64 t.hi] 124);have x3:Below w.heap.size w (wr.alloc (.cells #[int i64 t.bar,int i64 t.kind,int i64 t.lo,int i64 t.hi] 124)):=hC.out.alloc (by omega) _;have x4:w.heap.size<(wr.alloc (.cells #[int i64 t.bar,int i64 t.kind,int i64 t.lo,int i64 t.hi] 124)).heap.size:=by simp;omega
        have X0:=qh x0;have X2:=qh x2;have hE:=qh x3;clear x0 x2 x3;go_wp2_with fail;generalize wr.alloc (.cells #[int i64 t.bar,int i64 t.kind,int i64 t.lo,int i64 t.hi] 124)=w5 at *;generalize wr.heap.size=gw at *;clear c0 p0 p1 p2 p3;have c0:w5.cell? ⟨w.heap.size,0,none⟩=some (int i64 (B:Int)):=Aa X0.out 0 rfl;have l0:w5.cell? ⟨gw,0,none⟩=some (int i64 t.bar):=Aa X2.out 0 rfl;have l1:w5.cell? ⟨gw,1,none⟩=some (int i64 t.kind):=Aa X2.out 1 rfl;have l2:w5.cell? ⟨gw,2,none⟩=some (int i64 t.lo):=Aa X2.out 2 rfl;have l3:w5.cell? ⟨gw,3,none⟩=some (int i64 t.hi):=Aa X2.out 3 rfl;clear X2 hA hC;refine (Bg t.bar (last+1) ((B:Int)-2) _).mono ?_;rintro e w' ⟨rfl,rfl⟩
        cases q0:inB t.bar (last+1) ((B:Int)-2) with
        | false =>
         go_wp2_with fail;refine (Ay 130 _).mono ?_;rintro e w' ⟨rfl,rfl⟩;unfold Ai;go_wp2_with fail;exact ⟨rfl,AQ LIM.out (D5 (by rw [K1.out,K3.out,hD.out,AJ hF.out];simp [Bw,I9,q0])),hE.out⟩
        | true =>
         have Q0:=qh q0;clear q0;go_wp2_with fail;refine (Bg t.kind 1 2 _).mono ?_;rintro e w' ⟨rfl,rfl⟩
         cases q1:inB t.kind 1 2 with
         | false =>
          go_wp2_with fail;refine (Ay 130 _).mono ?_;rintro e w' ⟨rfl,rfl⟩;unfold Ai;go_wp2_with fail;exact ⟨rfl,AQ LIM.out (D5 (by rw [K1.out,K3.out,hD.out,AJ hF.out];simp [Bw,I9,Q0.out,q1])),hE.out⟩
         | true =>
          have Q1:=qh q1;clear q1;go_wp2_with fail;refine (Bg t.lo 0 t.hi _).mono ?_;rintro e w' ⟨rfl,rfl⟩
          cases q2:inB t.lo 0 t.hi with
          | false =>
           go_wp2_with fail;refine (Ay 130 _).mono ?_;rintro e w' ⟨rfl,rfl⟩;unfold Ai;go_wp2_with fail;exact ⟨rfl,AQ LIM.out (D5 (by rw [K1.out,K3.out,hD.out,AJ hF.out];simp [Bw,I9,Q0.out,Q1.out,q2])),hE.out⟩
          | true =>
           have Q2:=qh q2;clear q2;go_wp2_with fail
           cases q3:decide (t.hi≤1048576) with
           | false =>
            refine (Ay 130 _).mono ?_;rintro e w' ⟨rfl,rfl⟩;unfold Ai;go_wp2_with fail;exact ⟨rfl,AQ LIM.out (D5 (by rw [K1.out,K3.out,hD.out,AJ hF.out];simp [Bw,I9,Q0.out,Q1.out,Q2.out,of_decide_eq_false q3])),hE.out⟩
           | true =>
            have Q3:=qh (of_decide_eq_true q3);clear q3;refine (BY 130 _).mono ?_;rintro e w' ⟨rfl,rfl⟩;go_wp2_with fail;go_roundw
            case rel=>exact ⟨i+1,t.bar,by omega,by go_num,rfl,by have:=AR.1 Q0.out;omega,by have:=AR.1 Q0.out;omega,qh (by rw [hD.out,AJ hF.out];simp [Bw,I9,Q0.out,Q1.out,Q2.out,Q3.out]),x4,X0,hE⟩
            case measure=>simp [intOf];omega
       ·obtain rfl:nP=i:=by omega
        have hK:¬(nP:Int)<(nP:Int):=by omega
        have PM:Hid (Bw B (-1) ps=true):=qh (by rw [hD.out,List.drop_of_length_le (by rw [NP.out];exact qn _)];rfl);clear hD hW hX;have c3:wr.cell? ⟨w.heap.size,3,none⟩=some (.slice aS nS cS):=Aa hA.out 3 rfl;go_wp2_with fail;clear c3 hK;go_loopw [122] (λiv wr=>∃i:Nat,i≤nS∧iv=int i64 i∧Hid (ss.all (Cs B)=(ss.drop i).all (Cs B))∧w.heap.size<wr.heap.size∧Hid (wr.heap[w.heap.size]?=some (.cells #[int i64 (B:Int),.slice (some ⟨b,o,none⟩) nT cT,.slice aP nP cP,.slice aS nS cS] 63 (0,0)))∧Hid (Below w.heap.size w wr)) (λiv _=>nS-(intOf iv).toNat)
        case atStart=>exact ⟨0,Nat.zero_le _,rfl,qh rfl,hG,hA,hC⟩
        case round =>
         clear hG hA hC;obtain ⟨i,hi,rfl,hD,hG,hA,hC⟩:=hrel;by_cases hL:i<nS
         ·obtain ⟨t,ht⟩:∃t,ss[i]?=some t:=⟨_,qg (by rw [NS.out];exact hL)⟩
          obtain ⟨bp,op,ha,hI,hJ⟩:=HS.out.block ht;subst ha;obtain ⟨p0,p1,p2,p3⟩:=atC (hI.below hC.out hJ) ht;have hl:bp<wr.heap.size:=by have:=hC.out.size;omega
          clear hI;have hF:=qh ht;clear ht;have hM:(i:Int)<(nS:Int):=by omega
          have c0:wr.cell? ⟨w.heap.size,0,none⟩=some (int i64 (B:Int)):=Aa hA.out 0 rfl;have x0:=(Below.heap_alloc wr (.cells #[int i64 t.frm,int i64 t.to,int i64 t.lo,int i64 t.hi] 126) w.heap.size hG).trans hA.out;have x2:=heap_alloc_new wr (.cells #[int i64 t.frm,int i64 t.to,int i64 t.lo,int i64 t.hi] 126);have x3:Below w.heap.size w (wr.alloc (.cells #[int i64 t.frm,int i64 t.to,int i64 t.lo,int i64 t.hi] 126)):=hC.out.alloc (by omega) _;have x4:w.heap.size<(wr.alloc (.cells #[int i64 t.frm,int i64 t.to,int i64 t.lo,int i64 t.hi] 126)).heap.size:=by simp;omega
          have X0:=qh x0;have X2:=qh x2;have hE:=qh x3;clear x0 x2 x3;go_wp2_with fail;generalize wr.alloc (.cells #[int i64 t.frm,int i64 t.to,int i64 t.lo,int i64 t.hi] 126)=w5 at *;generalize wr.heap.size=gw at *;clear c0 p0 p1 p2 p3;have c0:w5.cell? ⟨w.heap.size,0,none⟩=some (int i64 (B:Int)):=Aa X0.out 0 rfl;have l0:w5.cell? ⟨gw,0,none⟩=some (int i64 t.frm):=Aa X2.out 0 rfl;have l1:w5.cell? ⟨gw,1,none⟩=some (int i64 t.to):=Aa X2.out 1 rfl;have l2:w5.cell? ⟨gw,2,none⟩=some (int i64 t.lo):=Aa X2.out 2 rfl;have l3:w5.cell? ⟨gw,3,none⟩=some (int i64 t.hi):=Aa X2.out 3 rfl;clear X2 hA hC;refine (Bg t.frm 0 (B:Int) _).mono ?_;rintro e w' ⟨rfl,rfl⟩
          cases q0:inB t.frm 0 (B:Int) with
          | false =>
           go_wp2_with fail;refine (Ay 130 _).mono ?_;rintro e w' ⟨rfl,rfl⟩;unfold Ai;go_wp2_with fail;exact ⟨rfl,AQ LIM.out (Cl (by rw [K1.out,K4.out,hD.out,AJ hF.out];simp [Cs,q0])),hE.out⟩
          | true =>
           have Q0:=qh q0;clear q0;go_wp2_with fail;refine (Bg t.to 0 (B:Int) _).mono ?_;rintro e w' ⟨rfl,rfl⟩
           cases q1:inB t.to 0 (B:Int) with
           | false =>
            go_wp2_with fail;refine (Ay 130 _).mono ?_;rintro e w' ⟨rfl,rfl⟩;unfold Ai;go_wp2_with fail;exact ⟨rfl,AQ LIM.out (Cl (by rw [K1.out,K4.out,hD.out,AJ hF.out];simp [Cs,Q0.out,q1])),hE.out⟩
           | true =>
            have Q1:=qh q1;clear q1;by_cases q2:t.frm=t.to
            ·have f2:(t.frm != t.to)=false:=by simpa using q2
             have Q2:=qh q2;clear q2;go_wp2_with fail;refine (Ay 130 _).mono ?_;rintro e w' ⟨rfl,rfl⟩;unfold Ai;go_wp2_with fail;exact ⟨rfl,AQ LIM.out (Cl (by rw [K1.out,K4.out,hD.out,AJ hF.out];simp [Cs,Q1.out,Q2.out])),hE.out⟩
            have f2:(t.frm != t.to)=true:=by simpa using q2
            have Q2:=qh q2;clear q2;go_wp2_with fail;clear f2;refine (Bg t.lo (-1099511627776) t.hi _).mono ?_;rintro e w' ⟨rfl,rfl⟩
            cases q3:inB t.lo (-1099511627776) t.hi with
            | false =>
             go_wp2_with fail;refine (Ay 130 _).mono ?_;rintro e w' ⟨rfl,rfl⟩;unfold Ai;go_wp2_with fail;exact ⟨rfl,AQ LIM.out (Cl (by rw [K1.out,K4.out,hD.out,AJ hF.out];simp [Cs,Q0.out,Q1.out,Q2.out,q3])),hE.out⟩
            | true =>
             have Q3:=qh q3;clear q3;go_wp2_with fail
             cases q4:decide (t.hi≤1099511627776) with
             | false =>
              refine (Ay 130 _).mono ?_;rintro e w' ⟨rfl,rfl⟩;unfold Ai;go_wp2_with fail;exact ⟨rfl,AQ LIM.out (Cl (by rw [K1.out,K4.out,hD.out,AJ hF.out];simp [Cs,Q0.out,Q1.out,Q2.out,Q3.out,of_decide_eq_false q4])),hE.out⟩
             | true =>
              have Q4:=qh (of_decide_eq_true q4);clear q4;refine (BY 130 _).mono ?_;rintro e w' ⟨rfl,rfl⟩;go_wp2_with fail;go_roundw
              case rel=>exact ⟨i+1,by omega,by go_num,qh (by rw [hD.out,AJ hF.out];simp [Cs,Q0.out,Q1.out,Q2.out,Q3.out,Q4.out]),x4,X0,hE⟩
              case measure=>simp [intOf];omega
         ·obtain rfl:nS=i:=by omega
          have hK:¬(nS:Int)<(nS:Int):=by omega
          have SM:Hid (ss.all (Cs B)=true):=qh (by rw [hD.out,List.drop_of_length_le (by rw [NS.out];exact qn _)];rfl);clear hD;go_wp2_with fail;go_end0;exact ⟨P4 LIM.out (Om hV.out (by rw [K1.out,K2.out];exact TM.out) (by rw [K1.out,K2.out,Int.toNat_natCast];exact hY.out) (by rw [K1.out,K3.out];exact PM.out) (by rw [K1.out,K4.out];exact SM.out)),hC.out⟩
theorem Iw(bars:Int)(aT aP aS:Option Addr)(cT cP cS:Nat)(ts:List Tmp)(ps:List Pau)(ss:List Con)(w:World)
  (hT:IsRow DP 3 w (.slice aT ts.length cT) ts) (hP:IsRow Fe 4 w (.slice aP ps.length cP) ps) (hS:IsRow F9 4 w (.slice aS ss.length cS) ss) (hF:ps.length≤ts.length) (hE:4096<ts.length) :
  Calls Tryz.prog 39 #[.agg #[int i64 bars,.slice aT ts.length cT,.slice aP ps.length cP,.slice aS ss.length cS]] w λe w'=>e=Cr ⟨bars,ts,ps,ss⟩∧Below w.heap.size w w':=by
 generalize hA:(⟨bars,ts,ps,ss⟩:Clk)=clk;have k1:clk.bars=bars:=by rw [← hA]
 have k2:clk.tempos=ts:=by rw [← hA]
 have k3:clk.pauses=ps:=by rw [← hA]
 have k4:clk.spans=ss:=by rw [← hA]
 have K1:=qh k1;have K2:=qh k2;have K3:=qh k3;have K4:=qh k4;clear hA k1 k2 k3 k4;obtain ⟨_,_,_,lT,_⟩:=id hT;obtain ⟨_,_,_,lP,_⟩:=id hP;obtain ⟨_,_,_,lS,_⟩:=id hS;unfold maxLen at lT lP lS;have HT:=qh hT;have HP:=qh hP;have HS:=qh hS;clear hT hP hS;generalize hB:ts.length=nT at *;generalize hC:ps.length=nP at *;generalize hD:ss.length=nS at *;have NT:=qh hB;have NP:=qh hC;have NS:=qh hD;clear hB hC hD;have b0:Below w.heap.size w (w.alloc (.cells #[int i64 bars,.slice aT nT cT,.slice aP nP cP,.slice aS nS cS] 63)):=(Below.refl _ w).alloc (qn _) _;have g0:=heap_alloc_new w (.cells #[int i64 bars,.slice aT nT cT,.slice aP nP cP,.slice aS nS cS] 63);have hG:w.heap.size<(w.alloc (.cells #[int i64 bars,.slice aT nT cT,.slice aP nP cP,.slice aS nS cS] 63)).heap.size:=by simp
 go_enter Tryz.func39,Tryz.ntmps39;go_wp2_with fail;generalize w.alloc (.cells #[int i64 bars,.slice aT nT cT,.slice aP nP cP,.slice aS nS cS] 63)=w0 at *;have HB:=qh b0;have G0:=qh g0;clear b0;have c0:w0.cell? ⟨w.heap.size,0,none⟩=some (int i64 bars):=Aa g0 0 rfl;have c1:w0.cell? ⟨w.heap.size,1,none⟩=some (.slice aT nT cT):=Aa g0 1 rfl;have c2:w0.cell? ⟨w.heap.size,2,none⟩=some (.slice aP nP cP):=Aa g0 2 rfl;have c3:w0.cell? ⟨w.heap.size,3,none⟩=some (.slice aS nS cS):=Aa g0 3 rfl;clear g0;refine (Ay 2 _).mono ?_;rintro e w' ⟨rfl,rfl⟩;unfold Ai;go_wp2_with fail;exact ⟨rfl,GB (EB (by rw [K2.out,K3.out,K4.out,NT.out,NP.out,NS.out];omega)),HB.out⟩
theorem Iz(bars:Int)(aT aP aS:Option Addr)(cT cP cS:Nat)(ts:List Tmp)(ps:List Pau)(ss:List Con)(w:World)
  (hT:IsRow DP 3 w (.slice aT ts.length cT) ts) (hP:IsRow Fe 4 w (.slice aP ps.length cP) ps) (hS:IsRow F9 4 w (.slice aS ss.length cS) ss) (hF:ps.length≤ts.length) (hG:ts.length≤4096) (hE:256<ss.length) :
  Calls Tryz.prog 39 #[.agg #[int i64 bars,.slice aT ts.length cT,.slice aP ps.length cP,.slice aS ss.length cS]] w λe w'=>e=Cr ⟨bars,ts,ps,ss⟩∧Below w.heap.size w w':=by
 generalize hA:(⟨bars,ts,ps,ss⟩:Clk)=clk;have k1:clk.bars=bars:=by rw [← hA]
 have k2:clk.tempos=ts:=by rw [← hA]
 have k3:clk.pauses=ps:=by rw [← hA]
 have k4:clk.spans=ss:=by rw [← hA]
 have K1:=qh k1;have K2:=qh k2;have K3:=qh k3;have K4:=qh k4;clear hA k1 k2 k3 k4;obtain ⟨_,_,_,lT,_⟩:=id hT;obtain ⟨_,_,_,lP,_⟩:=id hP;obtain ⟨_,_,_,lS,_⟩:=id hS;unfold maxLen at lT lP lS;have HT:=qh hT;have HP:=qh hP;have HS:=qh hS;clear hT hP hS;generalize hB:ts.length=nT at *;generalize hC:ps.length=nP at *;generalize hD:ss.length=nS at *;have NT:=qh hB;have NP:=qh hC;have NS:=qh hD;clear hB hC hD;have b0:Below w.heap.size w (w.alloc (.cells #[int i64 bars,.slice aT nT cT,.slice aP nP cP,.slice aS nS cS] 63)):=(Below.refl _ w).alloc (qn _) _;have g0:=heap_alloc_new w (.cells #[int i64 bars,.slice aT nT cT,.slice aP nP cP,.slice aS nS cS] 63);have hH:w.heap.size<(w.alloc (.cells #[int i64 bars,.slice aT nT cT,.slice aP nP cP,.slice aS nS cS] 63)).heap.size:=by simp
 have fS:decide ((nS:Int)≤256)=false:=by simpa using by omega
 have fM:((nT:Nat):Int)≤4096:=by omega
 go_enter Tryz.func39,Tryz.ntmps39;go_wp2_with fail;generalize w.alloc (.cells #[int i64 bars,.slice aT nT cT,.slice aP nP cP,.slice aS nS cS] 63)=w0 at *;have HB:=qh b0;have G0:=qh g0;clear b0;have c0:w0.cell? ⟨w.heap.size,0,none⟩=some (int i64 bars):=Aa g0 0 rfl;have c1:w0.cell? ⟨w.heap.size,1,none⟩=some (.slice aT nT cT):=Aa g0 1 rfl;have c2:w0.cell? ⟨w.heap.size,2,none⟩=some (.slice aP nP cP):=Aa g0 2 rfl;have c3:w0.cell? ⟨w.heap.size,3,none⟩=some (.slice aS nS cS):=Aa g0 3 rfl;clear g0;refine (Ay 2 _).mono ?_;rintro e w' ⟨rfl,rfl⟩;unfold Ai;go_wp2_with fail;exact ⟨rfl,GB (EB (by rw [K2.out,K3.out,K4.out,NT.out,NP.out,NS.out];omega)),HB.out⟩
theorem IB(bars:Int)(aT aP aS:Option Addr)(cT cP cS:Nat)(ts:List Tmp)(ps:List Pau)(ss:List Con)(w:World)
  (hT:IsRow DP 3 w (.slice aT ts.length cT) ts) (hP:IsRow Fe 4 w (.slice aP ps.length cP) ps) (hS:IsRow F9 4 w (.slice aS ss.length cS) ss) (hx:ps.length≤ts.length) (hy:ts.length≤4096) (hn:ss.length≤256) :
  Calls Tryz.prog 39 #[.agg #[int i64 bars,.slice aT ts.length cT,.slice aP ps.length cP,.slice aS ss.length cS]] w λe w'=>e=Cr ⟨bars,ts,ps,ss⟩∧Below w.heap.size w w':=by
 generalize hH:(⟨bars,ts,ps,ss⟩:Clk)=clk;have k1:clk.bars=bars:=by rw [← hH]
 have k2:clk.tempos=ts:=by rw [← hH]
 have k3:clk.pauses=ps:=by rw [← hH]
 have k4:clk.spans=ss:=by rw [← hH]
 have K1:=qh k1;have K2:=qh k2;have K3:=qh k3;have K4:=qh k4;clear hH k1 k2 k3 k4;obtain ⟨_,_,_,lT,_⟩:=id hT;obtain ⟨_,_,_,lP,_⟩:=id hP;obtain ⟨_,_,_,lS,_⟩:=id hS;unfold maxLen at lT lP lS;have HT:=qh hT;have HP:=qh hP;have HS:=qh hS;clear hT hP hS;generalize hb:ts.length=nT at *;generalize hc:ps.length=nP at *;generalize hd:ss.length=nS at *;have NT:=qh hb;have NP:=qh hc;have NS:=qh hd;clear hb hc hd;have b0:Below w.heap.size w (w.alloc (.cells #[int i64 bars,.slice aT nT cT,.slice aP nP cP,.slice aS nS cS] 63)):=(Below.refl _ w).alloc (qn _) _;have g0:=heap_alloc_new w (.cells #[int i64 bars,.slice aT nT cT,.slice aP nP cP,.slice aS nS cS] 63);have hf:w.heap.size<(w.alloc (.cells #[int i64 bars,.slice aT nT cT,.slice aP nP cP,.slice aS nS cS] 63)).heap.size:=by simp
 have fS:decide ((nS:Int)≤256)=true:=by simpa using by omega
 have fM:((nT:Nat):Int)≤4096:=by omega
 have LIM:Hid (Ck clk=true):=qh (KK (by rw [K2.out,NT.out];omega) (by rw [K3.out,NP.out];omega) (by rw [K4.out,NS.out];omega));go_enter Tryz.func39,Tryz.ntmps39;go_wp2_with fail;generalize w.alloc (.cells #[int i64 bars,.slice aT nT cT,.slice aP nP cP,.slice aS nS cS] 63)=w0 at *;have HB:=qh b0;have G0:=qh g0;clear b0;have c0:w0.cell? ⟨w.heap.size,0,none⟩=some (int i64 bars):=Aa g0 0 rfl;have c1:w0.cell? ⟨w.heap.size,1,none⟩=some (.slice aT nT cT):=Aa g0 1 rfl;have c2:w0.cell? ⟨w.heap.size,2,none⟩=some (.slice aP nP cP):=Aa g0 2 rfl;have c3:w0.cell? ⟨w.heap.size,3,none⟩=some (.slice aS nS cS):=Aa g0 3 rfl;clear g0;refine (BY 2 _).mono ?_;rintro e w' ⟨rfl,rfl⟩;clear fS fM;go_wp2_with fail;refine (Bg bars 1 4096 _).mono ?_;rintro e w' ⟨rfl,rfl⟩
 cases h1:inB bars 1 4096 with
 | false =>
  go_wp2_with fail;refine (Ay 130 _).mono ?_;rintro e w' ⟨rfl,rfl⟩;unfold Ai;go_wp2_with fail;exact ⟨rfl,AQ LIM.out (DZ (by unfold BP;rw [K1.out,h1];rfl)),HB.out⟩
 | true =>
  have H1:=qh h1;obtain ⟨ho,hp⟩:=AR.1 h1;clear h1;obtain ⟨B,hB⟩:∃B:Nat,bars=(B:Int):=⟨bars.toNat,by omega⟩;subst hB;have hz:B≤4096:=by omega
  have h3:1≤B:=by omega
  clear ho hp;by_cases hq:0<nT
  rotate_left
  ·have f0:¬(0:Int)<(nT:Int):=by omega
   have he:ts=[]:=List.length_eq_zero_iff.1 (by rw [NT.out];omega);go_wp2_with fail;refine (Ay 130 _).mono ?_;rintro e w' ⟨rfl,rfl⟩;unfold Ai;go_wp2_with fail;exact ⟨rfl,AQ LIM.out (DZ (by unfold BP;rw [K1.out,K2.out,he];simp)),HB.out⟩
  obtain ⟨t0,hO⟩:∃t,ts[0]?=some t:=⟨_,qg (by rw [NT.out];exact hq)⟩;obtain ⟨b,o,hr,hh,hQ⟩:=HT.out.block hO;subst hr;have hR:=qh hh;clear hh;have hs:(0:Int)<(nT:Int):=by omega
  have p0:w0.cell? ⟨b,o,none⟩=some (int i64 t0.bar):=by
   have:=(atT (hR.out.below HB.out hQ) hO).1;simpa using this
  have hU:=qh hO;clear hO;by_cases h0:t0.bar=0
  rotate_left
  ·have f0:(t0.bar==0)=false:=by simpa using h0
   have HH:=qh h0;clear h0;go_wp2_with fail;refine (Ay 130 _).mono ?_;rintro e w' ⟨rfl,rfl⟩;unfold Ai;go_wp2_with fail;exact ⟨rfl,AQ LIM.out (DZ (KF (by rw [K2.out];exact hU.out) HH.out)),HB.out⟩
  have f0:(t0.bar==0)=true:=by simpa using h0
  have HH:=qh h0;clear h0;have hV:Hid (BP clk=true):=qh (MC (by rw [K1.out];exact H1.out) (by rw [K2.out];exact hU.out) HH.out);go_wp2_with fail;refine (BY 130 _).mono ?_;rintro e w' ⟨rfl,rfl⟩;clear f0 p0;go_wp2_with fail;clear c0 c1 c2 c3;go_loopw [2,46] (λlv iv wr=>∃(k:Nat) (last:Int),k≤nT∧iv=int i64 k∧lv=int i64 last∧-1≤last∧last≤4096∧Hid (Bn B (-1) ts=Bn B last (ts.drop k))∧w.heap.size<wr.heap.size∧Hid (wr.heap[w.heap.size]?=some (.cells #[int i64 (B:Int),.slice (some ⟨b,o,none⟩) nT cT,.slice aP nP cP,.slice aS nS cS] 63 (0,0)))∧Hid (Below w.heap.size w wr)) (λ_ iv _=>nT-(intOf iv).toNat)
  case atStart=>exact ⟨0,-1,Nat.zero_le _,rfl,rfl,by omega,by omega,qh rfl,hf,G0,HB⟩
  case round =>
   clear HB G0 hf;obtain ⟨k,last,hk,rfl,rfl,hW,hX,hD,hG,hA,hC⟩:=hrel;by_cases hL:k<nT
   ·obtain ⟨t,ht⟩:∃t,ts[k]?=some t:=⟨_,qg (by rw [NT.out];exact hL)⟩
    obtain ⟨p0,p1,p2⟩:=atT (hR.out.below hC.out hQ) ht;have hl:b<wr.heap.size:=by have:=hC.out.size;omega
    have hF:=qh ht;clear ht;have hM:(k:Int)<(nT:Int):=by omega
    have c0:wr.cell? ⟨w.heap.size,0,none⟩=some (int i64 (B:Int)):=Aa hA.out 0 rfl;have x0:=(Below.heap_alloc wr (.cells #[int i64 t.bar,int i64 t.ticks,int i64 t.step] 80) w.heap.size hG).trans hA.out;have x2:=heap_alloc_new wr (.cells #[int i64 t.bar,int i64 t.ticks,int i64 t.step] 80);have x3:Below w.heap.size w (wr.alloc (.cells #[int i64 t.bar,int i64 t.ticks,int i64 t.step] 80)):=hC.out.alloc (by omega) _;have x4:w.heap.size<(wr.alloc (.cells #[int i64 t.bar,int i64 t.ticks,int i64 t.step] 80)).heap.size:=by simp;omega
    have X0:=qh x0;have X2:=qh x2;have hE:=qh x3;clear x0 x2 x3;go_wp2_with fail;generalize wr.alloc (.cells #[int i64 t.bar,int i64 t.ticks,int i64 t.step] 80)=w5 at *;generalize wr.heap.size=gw at *;clear c0 p0 p1 p2;have c0:w5.cell? ⟨w.heap.size,0,none⟩=some (int i64 (B:Int)):=Aa X0.out 0 rfl;have l0:w5.cell? ⟨gw,0,none⟩=some (int i64 t.bar):=Aa X2.out 0 rfl;have l1:w5.cell? ⟨gw,1,none⟩=some (int i64 t.ticks):=Aa X2.out 1 rfl;have l2:w5.cell? ⟨gw,2,none⟩=some (int i64 t.step):=Aa X2.out 2 rfl;clear X2 hA hC;refine (Bg t.bar (last+1) ((B:Int)-1) _).mono ?_;rintro e w' ⟨rfl,rfl⟩
    cases q0:inB t.bar (last+1) ((B:Int)-1) with
    | false =>
     go_wp2_with fail;refine (Ay 130 _).mono ?_;rintro e w' ⟨rfl,rfl⟩;unfold Ai;go_wp2_with fail;exact ⟨rfl,AQ LIM.out (E0 (by rw [K1.out,K2.out,hD.out,AJ hF.out];simp [Bn,IQ,q0])),hE.out⟩
    | true =>
     have Q0:=qh q0;clear q0;go_wp2_with fail;refine (Bg t.ticks (-65536) 65536 _).mono ?_;rintro e w' ⟨rfl,rfl⟩
     cases q1:inB t.ticks (-65536) 65536 with
     | false =>
      go_wp2_with fail;refine (Ay 130 _).mono ?_;rintro e w' ⟨rfl,rfl⟩;unfold Ai;go_wp2_with fail;exact ⟨rfl,AQ LIM.out (E0 (by rw [K1.out,K2.out,hD.out,AJ hF.out];simp [Bn,IQ,Q0.out,q1])),hE.out⟩
     | true =>
      have Q1:=qh q1;clear q1;go_wp2_with fail;refine (Bg t.step (-65536) 65536 _).mono ?_;rintro e w' ⟨rfl,rfl⟩
      cases q2:inB t.step (-65536) 65536 with
      | false =>
       go_wp2_with fail;refine (Ay 130 _).mono ?_;rintro e w' ⟨rfl,rfl⟩;unfold Ai;go_wp2_with fail;exact ⟨rfl,AQ LIM.out (E0 (by rw [K1.out,K2.out,hD.out,AJ hF.out];simp [Bn,IQ,Q0.out,Q1.out,q2])),hE.out⟩
      | true =>
       have Q2:=qh q2;clear q2;go_wp2_with fail;refine (BY 130 _).mono ?_;rintro e w' ⟨rfl,rfl⟩;go_wp2_with fail;go_roundw
       case rel=>exact ⟨k+1,t.bar,by omega,by go_num,rfl,by have:=AR.1 Q0.out;omega,by have:=AR.1 Q0.out;omega,qh (by rw [hD.out,AJ hF.out];simp [Bn,IQ,Q0.out,Q1.out,Q2.out]),x4,X0,hE⟩
       case measure=>simp [intOf];omega
   ·obtain rfl:nT=k:=by omega
    have hK:¬(nT:Int)<(nT:Int):=by omega
    have TM:Hid (Bn B (-1) ts=true):=qh (by rw [hD.out,List.drop_of_length_le (by rw [NT.out];exact qn _)];rfl);clear hD hW hX;have ⟨hm,hN⟩:=CD TM.out;have NW:Hid (∀j:Nat,j<B→GI ts j):=qh (λj hj=>⟨hm,FD hU.out (by rw [HH.out];omega),by omega,by omega,λt ht=>by have:=hN t ht;omega⟩);clear hm hN;have c0:wr.cell? ⟨w.heap.size,0,none⟩=some (int i64 (B:Int)):=Aa hA.out 0 rfl;go_wp2_with fail;clear c0 hK;go_loopw [74] (λiv wr=>∃j:Nat,j≤B∧iv=int i64 j∧Hid (C0 ts j=true)∧w.heap.size<wr.heap.size∧Hid (wr.heap[w.heap.size]?=some (.cells #[int i64 (B:Int),.slice (some ⟨b,o,none⟩) nT cT,.slice aP nP cP,.slice aS nS cS] 63 (0,0)))∧Hid (Below w.heap.size w wr)) (λiv _=>B-(intOf iv).toNat)
    case atStart=>exact ⟨0,Nat.zero_le _,rfl,qh rfl,hG,hA,hC⟩
    case round =>
     clear hA hC hG;obtain ⟨j,hj,rfl,hY,hG,hA,hC⟩:=hrel;by_cases hu:j<B
     ·have hv:(j:Int)<(B:Int):=by omega
      have c0:wr.cell? ⟨w.heap.size,0,none⟩=some (int i64 (B:Int)):=Aa hA.out 0 rfl;have c1:wr.cell? ⟨w.heap.size,1,none⟩=some (.slice (some ⟨b,o,none⟩) nT cT):=Aa hA.out 1 rfl;have c2:wr.cell? ⟨w.heap.size,2,none⟩=some (.slice aP nP cP):=Aa hA.out 2 rfl;have c3:wr.cell? ⟨w.heap.size,3,none⟩=some (.slice aS nS cS):=Aa hA.out 3 rfl;go_wp2_with fail;refine (JC B j b o nT cT (.slice aP nP cP) (.slice aS nS cS) ts wr NT.out (by omega) (hR.out.below hC.out hQ) (by have:=hC.out.size;omega) (NW.out j hu)).mono ?_;rintro e w5 ⟨rfl,b5⟩;have hw:=b5.size;have x0:=(b5.block _ hG).trans hA.out;have hE:=qh (hC.out.trans (b5.mono (by omega)));have X0:=qh x0;have hZ:w.heap.size<w5.heap.size:=by omega
      clear x0 b5 c0 c1 c2 c3 hA hC hw;generalize hg:Bm ts j=g;have HG:=qh hg;clear hg;go_wp2_with fail;refine (Bg g 1 65536 _).mono ?_;rintro e w' ⟨rfl,rfl⟩
      cases h2:inB g 1 65536 with
      | false =>
       go_wp2_with fail;refine (Ay 130 _).mono ?_;rintro e w' ⟨rfl,rfl⟩;unfold Ai;go_wp2_with fail;exact ⟨rfl,AQ LIM.out (IU (by rw [K2.out,K1.out,Int.toNat_natCast];exact Fz (DN hY.out (by rw [HG.out];exact h2)) (by omega))),hE.out⟩
      | true =>
       have H2:=qh h2;clear h2;go_wp2_with fail;refine (BY 130 _).mono ?_;rintro e w' ⟨rfl,rfl⟩;go_wp2_with fail;go_roundw
       case rel=>exact ⟨j+1,by omega,by go_num,qh (DN hY.out (by rw [HG.out];exact H2.out)),hZ,X0,hE⟩
       case measure=>simp [intOf];omega
     ·obtain rfl:B=j:=by omega
      have hK:¬(B:Int)<(B:Int):=by omega
      have c2:wr.cell? ⟨w.heap.size,2,none⟩=some (.slice aP nP cP):=Aa hA.out 2 rfl;go_wp2_with fail;clear c2 hK;go_loopw [2,86] (λlv iv wr=>∃(i:Nat) (last:Int),i≤nP∧iv=int i64 i∧lv=int i64 last∧-1≤last∧last≤4096∧Hid (Bw B (-1) ps=Bw B last (ps.drop i))∧w.heap.size<wr.heap.size∧Hid (wr.heap[w.heap.size]?=some (.cells #[int i64 (B:Int),.slice (some ⟨b,o,none⟩) nT cT,.slice aP nP cP,.slice aS nS cS] 63 (0,0)))∧Hid (Below w.heap.size w wr)) (λ_ iv _=>nP-(intOf iv).toNat)
      case atStart=>exact ⟨0,-1,Nat.zero_le _,rfl,rfl,by omega,by omega,qh rfl,hG,hA,hC⟩
      case round =>
       clear hG hA hC;obtain ⟨i,last,hi,rfl,rfl,hW,hX,hD,hG,hA,hC⟩:=hrel;by_cases hL:i<nP
       ·obtain ⟨t,ht⟩:∃t,ps[i]?=some t:=⟨_,qg (by rw [NP.out];exact hL)⟩
        obtain ⟨bp,op,ha,hI,hJ⟩:=HP.out.block ht;subst ha;obtain ⟨p0,p1,p2,p3⟩:=atP (hI.below hC.out hJ) ht;have hl:bp<wr.heap.size:=by have:=hC.out.size;omega
        clear hI;have hF:=qh ht;clear ht;have hM:(i:Int)<(nP:Int):=by omega
        have c0:wr.cell? ⟨w.heap.size,0,none⟩=some (int i64 (B:Int)):=Aa hA.out 0 rfl;have x0:=(Below.heap_alloc wr (.cells #[int i64 t.bar,int i64 t.kind,int i64 t.lo,int i64 t.hi] 124) w.heap.size hG).trans hA.out;have x2:=heap_alloc_new wr (.cells #[int i64 t.bar,int i64 t.kind,int i64 t.lo,int i64 t.hi] 124);have x3:Below w.heap.size w (wr.alloc (.cells #[int i64 t.bar,int i64 t.kind,int i64 t.lo,int i64 t.hi] 124)):=hC.out.alloc (by omega) _;have x4:w.heap.size<(wr.alloc (.cells #[int i64 t.bar,int i64 t.kind,int i64 t.lo,int i64 t.hi] 124)).heap.size:=by simp;omega
        have X0:=qh x0;have X2:=qh x2;have hE:=qh x3;clear x0 x2 x3;go_wp2_with fail;generalize wr.alloc (.cells #[int i64 t.bar,int i64 t.kind,int i64 t.lo,int i64 t.hi] 124)=w5 at *;generalize wr.heap.size=gw at *;clear c0 p0 p1 p2 p3;have c0:w5.cell? ⟨w.heap.size,0,none⟩=some (int i64 (B:Int)):=Aa X0.out 0 rfl;have l0:w5.cell? ⟨gw,0,none⟩=some (int i64 t.bar):=Aa X2.out 0 rfl;have l1:w5.cell? ⟨gw,1,none⟩=some (int i64 t.kind):=Aa X2.out 1 rfl;have l2:w5.cell? ⟨gw,2,none⟩=some (int i64 t.lo):=Aa X2.out 2 rfl;have l3:w5.cell? ⟨gw,3,none⟩=some (int i64 t.hi):=Aa X2.out 3 rfl;clear X2 hA hC;refine (Bg t.bar (last+1) ((B:Int)-2) _).mono ?_;rintro e w' ⟨rfl,rfl⟩
        cases q0:inB t.bar (last+1) ((B:Int)-2) with
        | false =>
         go_wp2_with fail;refine (Ay 130 _).mono ?_;rintro e w' ⟨rfl,rfl⟩;unfold Ai;go_wp2_with fail;exact ⟨rfl,AQ LIM.out (D5 (by rw [K1.out,K3.out,hD.out,AJ hF.out];simp [Bw,I9,q0])),hE.out⟩
        | true =>
         have Q0:=qh q0;clear q0;go_wp2_with fail;refine (Bg t.kind 1 2 _).mono ?_;rintro e w' ⟨rfl,rfl⟩
         cases q1:inB t.kind 1 2 with
         | false =>
          go_wp2_with fail;refine (Ay 130 _).mono ?_;rintro e w' ⟨rfl,rfl⟩;unfold Ai;go_wp2_with fail;exact ⟨rfl,AQ LIM.out (D5 (by rw [K1.out,K3.out,hD.out,AJ hF.out];simp [Bw,I9,Q0.out,q1])),hE.out⟩
         | true =>
          have Q1:=qh q1;clear q1;go_wp2_with fail;refine (Bg t.lo 0 t.hi _).mono ?_;rintro e w' ⟨rfl,rfl⟩
          cases q2:inB t.lo 0 t.hi with
          | false =>
           go_wp2_with fail;refine (Ay 130 _).mono ?_;rintro e w' ⟨rfl,rfl⟩;unfold Ai;go_wp2_with fail;exact ⟨rfl,AQ LIM.out (D5 (by rw [K1.out,K3.out,hD.out,AJ hF.out];simp [Bw,I9,Q0.out,Q1.out,q2])),hE.out⟩
          | true =>
           have Q2:=qh q2;clear q2;go_wp2_with fail
           cases q3:decide (t.hi≤1048576) with
           | false =>
            refine (Ay 130 _).mono ?_;rintro e w' ⟨rfl,rfl⟩;unfold Ai;go_wp2_with fail;exact ⟨rfl,AQ LIM.out (D5 (by rw [K1.out,K3.out,hD.out,AJ hF.out];simp [Bw,I9,Q0.out,Q1.out,Q2.out,of_decide_eq_false q3])),hE.out⟩
           | true =>
            have Q3:=qh (of_decide_eq_true q3);clear q3;refine (BY 130 _).mono ?_;rintro e w' ⟨rfl,rfl⟩;go_wp2_with fail;go_roundw
            case rel=>exact ⟨i+1,t.bar,by omega,by go_num,rfl,by have:=AR.1 Q0.out;omega,by have:=AR.1 Q0.out;omega,qh (by rw [hD.out,AJ hF.out];simp [Bw,I9,Q0.out,Q1.out,Q2.out,Q3.out]),x4,X0,hE⟩
            case measure=>simp [intOf];omega
       ·obtain rfl:nP=i:=by omega
        have hK:¬(nP:Int)<(nP:Int):=by omega
        have PM:Hid (Bw B (-1) ps=true):=qh (by rw [hD.out,List.drop_of_length_le (by rw [NP.out];exact qn _)];rfl);clear hD hW hX;have c3:wr.cell? ⟨w.heap.size,3,none⟩=some (.slice aS nS cS):=Aa hA.out 3 rfl;go_wp2_with fail;clear c3 hK;go_loopw [122] (λiv wr=>∃i:Nat,i≤nS∧iv=int i64 i∧Hid (ss.all (Cs B)=(ss.drop i).all (Cs B))∧w.heap.size<wr.heap.size∧Hid (wr.heap[w.heap.size]?=some (.cells #[int i64 (B:Int),.slice (some ⟨b,o,none⟩) nT cT,.slice aP nP cP,.slice aS nS cS] 63 (0,0)))∧Hid (Below w.heap.size w wr)) (λiv _=>nS-(intOf iv).toNat)
        case atStart=>exact ⟨0,Nat.zero_le _,rfl,qh rfl,hG,hA,hC⟩
        case round =>
         clear hG hA hC;obtain ⟨i,hi,rfl,hD,hG,hA,hC⟩:=hrel;by_cases hL:i<nS
         ·obtain ⟨t,ht⟩:∃t,ss[i]?=some t:=⟨_,qg (by rw [NS.out];exact hL)⟩
          obtain ⟨bp,op,ha,hI,hJ⟩:=HS.out.block ht;subst ha;obtain ⟨p0,p1,p2,p3⟩:=atC (hI.below hC.out hJ) ht;have hl:bp<wr.heap.size:=by have:=hC.out.size;omega
          clear hI;have hF:=qh ht;clear ht;have hM:(i:Int)<(nS:Int):=by omega
          have c0:wr.cell? ⟨w.heap.size,0,none⟩=some (int i64 (B:Int)):=Aa hA.out 0 rfl;have x0:=(Below.heap_alloc wr (.cells #[int i64 t.frm,int i64 t.to,int i64 t.lo,int i64 t.hi] 126) w.heap.size hG).trans hA.out;have x2:=heap_alloc_new wr (.cells #[int i64 t.frm,int i64 t.to,int i64 t.lo,int i64 t.hi] 126);have x3:Below w.heap.size w (wr.alloc (.cells #[int i64 t.frm,int i64 t.to,int i64 t.lo,int i64 t.hi] 126)):=hC.out.alloc (by omega) _;have x4:w.heap.size<(wr.alloc (.cells #[int i64 t.frm,int i64 t.to,int i64 t.lo,int i64 t.hi] 126)).heap.size:=by simp;omega
          have X0:=qh x0;have X2:=qh x2;have hE:=qh x3;clear x0 x2 x3;go_wp2_with fail;generalize wr.alloc (.cells #[int i64 t.frm,int i64 t.to,int i64 t.lo,int i64 t.hi] 126)=w5 at *;generalize wr.heap.size=gw at *;clear c0 p0 p1 p2 p3;have c0:w5.cell? ⟨w.heap.size,0,none⟩=some (int i64 (B:Int)):=Aa X0.out 0 rfl;have l0:w5.cell? ⟨gw,0,none⟩=some (int i64 t.frm):=Aa X2.out 0 rfl;have l1:w5.cell? ⟨gw,1,none⟩=some (int i64 t.to):=Aa X2.out 1 rfl;have l2:w5.cell? ⟨gw,2,none⟩=some (int i64 t.lo):=Aa X2.out 2 rfl;have l3:w5.cell? ⟨gw,3,none⟩=some (int i64 t.hi):=Aa X2.out 3 rfl;clear X2 hA hC;refine (Bg t.frm 0 (B:Int) _).mono ?_;rintro e w' ⟨rfl,rfl⟩
          cases q0:inB t.frm 0 (B:Int) with
          | false =>
           go_wp2_with fail;refine (Ay 130 _).mono ?_;rintro e w' ⟨rfl,rfl⟩;unfold Ai;go_wp2_with fail;exact ⟨rfl,AQ LIM.out (Cl (by rw [K1.out,K4.out,hD.out,AJ hF.out];simp [Cs,q0])),hE.out⟩
          | true =>
           have Q0:=qh q0;clear q0;go_wp2_with fail;refine (Bg t.to 0 (B:Int) _).mono ?_;rintro e w' ⟨rfl,rfl⟩
           cases q1:inB t.to 0 (B:Int) with
           | false =>
            go_wp2_with fail;refine (Ay 130 _).mono ?_;rintro e w' ⟨rfl,rfl⟩;unfold Ai;go_wp2_with fail;exact ⟨rfl,AQ LIM.out (Cl (by rw [K1.out,K4.out,hD.out,AJ hF.out];simp [Cs,Q0.out,q1])),hE.out⟩
           | true =>
            have Q1:=qh q1;clear q1;by_cases q2:t.frm=t.to
            ·have f2:(t.frm != t.to)=false:=by simpa using q2
             have Q2:=qh q2;clear q2;go_wp2_with fail;refine (Ay 130 _).mono ?_;rintro e w' ⟨rfl,rfl⟩;unfold Ai;go_wp2_with fail;exact ⟨rfl,AQ LIM.out (Cl (by rw [K1.out,K4.out,hD.out,AJ hF.out];simp [Cs,Q1.out,Q2.out])),hE.out⟩
            have f2:(t.frm != t.to)=true:=by simpa using q2
            have Q2:=qh q2;clear q2;go_wp2_with fail;clear f2;refine (Bg t.lo (-1099511627776) t.hi _).mono ?_;rintro e w' ⟨rfl,rfl⟩
            cases q3:inB t.lo (-1099511627776) t.hi with
            | false =>
             go_wp2_with fail;refine (Ay 130 _).mono ?_;rintro e w' ⟨rfl,rfl⟩;unfold Ai;go_wp2_with fail;exact ⟨rfl,AQ LIM.out (Cl (by rw [K1.out,K4.out,hD.out,AJ hF.out];simp [Cs,Q0.out,Q1.out,Q2.out,q3])),hE.out⟩
            | true =>
             have Q3:=qh q3;clear q3;go_wp2_with fail
             cases q4:decide (t.hi≤1099511627776) with
             | false =>
              refine (Ay 130 _).mono ?_;rintro e w' ⟨rfl,rfl⟩;unfold Ai;go_wp2_with fail;exact ⟨rfl,AQ LIM.out (Cl (by rw [K1.out,K4.out,hD.out,AJ hF.out];simp [Cs,Q0.out,Q1.out,Q2.out,Q3.out,of_decide_eq_false q4])),hE.out⟩
             | true =>
              have Q4:=qh (of_decide_eq_true q4);clear q4;refine (BY 130 _).mono ?_;rintro e w' ⟨rfl,rfl⟩;go_wp2_with fail;go_roundw
              case rel=>exact ⟨i+1,by omega,by go_num,qh (by rw [hD.out,AJ hF.out];simp [Cs,Q0.out,Q1.out,Q2.out,Q3.out,Q4.out]),x4,X0,hE⟩
              case measure=>simp [intOf];omega
         ·obtain rfl:nS=i:=by omega
          have hK:¬(nS:Int)<(nS:Int):=by omega
          have SM:Hid (ss.all (Cs B)=true):=qh (by rw [hD.out,List.drop_of_length_le (by rw [NS.out];exact qn _)];rfl);clear hD;go_wp2_with fail;go_end0;exact ⟨P4 LIM.out (Om hV.out (by rw [K1.out,K2.out];exact TM.out) (by rw [K1.out,K2.out,Int.toNat_natCast];exact hY.out) (by rw [K1.out,K3.out];exact PM.out) (by rw [K1.out,K4.out];exact SM.out)),hC.out⟩
end
section
open Go Go.RowKit
open Go.RowKit
theorem Kc(bars:Int)(aT aP aS:Option Addr)(cT cP cS:Nat)(ts:List Tmp)(ps:List Pau)(ss:List Con)(w:World)
  (hT:IsRow DP 3 w (.slice aT ts.length cT) ts) (hP:IsRow Fe 4 w (.slice aP ps.length cP) ps) (hS:IsRow F9 4 w (.slice aS ss.length cS) ss) :
  Calls Tryz.prog 39 #[.agg #[int i64 bars,.slice aT ts.length cT,.slice aP ps.length cP,.slice aS ss.length cS]] w λe w'=>e=Cr ⟨bars,ts,ps,ss⟩∧Below w.heap.size w w':=by
 by_cases h:ts.length<ps.length
 ·by_cases h1:4096<ps.length
  ·exact Iv bars aT aP aS cT cP cS ts ps ss w hT hP hS h h1
  by_cases h2:256<ss.length
  ·exact Iy bars aT aP aS cT cP cS ts ps ss w hT hP hS h (by omega) h2
  exact IA bars aT aP aS cT cP cS ts ps ss w hT hP hS h (by omega) (by omega)
 ·by_cases h1:4096<ts.length
  ·exact Iw bars aT aP aS cT cP cS ts ps ss w hT hP hS (by omega) h1
  by_cases h2:256<ss.length
  ·exact Iz bars aT aP aS cT cP cS ts ps ss w hT hP hS (by omega) (by omega) h2
  exact IB bars aT aP aS cT cP cS ts ps ss w hT hP hS (by omega) (by omega) (by omega)
theorem Lh(p:Addr)(w:World) :
  CallsD Tryz.prog 38 #[.pointer (some p)] .returning w λe u' w'=>e=.returned (.tuple #[])∧u'=.returning∧w=w':=by
 refine callsD_of_wpS Tryz.func38 rfl λc₀ cs hu=>?_
 apply wpS_seq;apply wpS_region;simp [wpOpsS,go_sem,recoverD,hu,Tryz.ntmps38,Exit.thenS];refine wpS_of_wp ?_;simp only [Array.replicate];go_wp2;cases c₀
 simp_all [bodyPostS,results,Tryz.results38]
theorem G4(B:Nat)(c:Int)(x:Value)(older:List PanicEntry)(w:World)(h0:w.heap[B]?=some (.cells #[x] 33 (0,0))) :
  CallsD Tryz.prog 38 #[.pointer (some ⟨B,0,none⟩)] (.panicking ({ v:=.iface 33 (int i64 c),recovered:=false }::older)) w λe u' w' =>
   e=.returned (.tuple #[])∧u'=.panicking ({ v:=.iface 33 (int i64 c),recovered:=true }::older)∧w'.heap[B]?=some (.cells #[int i64 c] 33 (0,0))∧Below B w w':=by
 have c0:=cell_of_one h0;have f0:=free_of_one h0;have H0:=qh h0;clear h0;refine callsD_of_wpS Tryz.func38 rfl λc₀ cs hu=>?_
 apply wpS_seq;apply wpS_region;simp [wpOpsS,go_sem,recoverD,hu,Tryz.ntmps38,Exit.thenS];refine wpS_of_wp ?_;have hA:=Jw;have hB:=Il;simp only [Array.replicate];go_wp2;exact ⟨rfl,_,rfl,.tuple #[],results_none rfl _ _ _,rfl,rfl,one_setCell H0.out,(Below.refl B w).setCell (p:=⟨B,0,none⟩) (qn _) _⟩
theorem O9(t:Array Value)(B:Nat)(c:Int)(R:Ending→World→Prop)(w2:World)(x:Value)(hA:t.getD 2 undef=.pointer (some ⟨B,0,none⟩))
  (h0:w2.heap[B]?=some (.cells #[x] 33 (0,0))) (hR:∀w',Below B w2 w'→R (.returned (int i64 c)) w') :
  bodyPostD Tryz.prog Tryz.f21 R (Exit.panic [{ v:=.iface 33 (int i64 c),recovered:=false }])
   { tmps:=t,defers:=[{ target:=.fn (.func 38) #[.pointer (some ⟨B,0,none⟩)],args:=#[] }] } w2:=by
 have HR:=qh hR;clear hR;refine leaves_cons (f:=38) (args:=#[.pointer (some ⟨B,0,none⟩)]) (by simp) (by simp [go_sem]) ?_;refine (G4 B c x [] _ h0).mono ?_;rintro e u' w'' ⟨rfl,rfl,k0,hB⟩;have c0:=cell_of_one k0;simp at hA;have HB:=qh hB;clear hB k0 h0;simp [Leaves,settle,results,Tryz.results21,go_sem,hA,c0];exact HR.out _ HB.out
theorem QF(t:Array Value)(B:Nat)(R:Ending→World→Prop)(w2:World)(x:Value)(hA:t.getD 2 undef=.pointer (some ⟨B,0,none⟩))
  (h0:w2.cell? ⟨B,0,none⟩=some x) (hR:R (.returned x) w2) :
  bodyPostD Tryz.prog Tryz.f21 R Exit.ret { tmps:=t,defers:=[{ target:=.fn (.func 38) #[.pointer (some ⟨B,0,none⟩)],args:=#[] }] } w2:=by
 have HR:=qh hR;clear hR;simp at hA;refine leaves_cons (f:=38) (args:=#[.pointer (some ⟨B,0,none⟩)]) (by simp) (by simp [go_sem]) ?_;refine (Lh _ _).mono ?_;rintro e u' w'' ⟨rfl,rfl,rfl⟩;simp [Leaves,settle,results,Tryz.results21,go_sem,hA,h0];exact HR.out
theorem Ml(bars:Int)(aT aP aS:Option Addr)(cT cP cS:Nat)(ts:List Tmp)(ps:List Pau)(ss:List Con)(w:World)
  (hT:IsRow DP 3 w (.slice aT ts.length cT) ts) (hP:IsRow Fe 4 w (.slice aP ps.length cP) ps) (hS:IsRow F9 4 w (.slice aS ss.length cS) ss) :
  Calls Tryz.prog 21 #[.agg #[int i64 bars,.slice aT ts.length cT,.slice aP ps.length cP,.slice aS ss.length cS]] w λe w'=>e=.returned (int i64 (CW ⟨bars,ts,ps,ss⟩))∧Below w.heap.size w w':=by
 have hB:∀(fn:Fn) (first cap:Array Value) (w:World),(Instr.makeFunc fn first cap).run Tryz.prog w=.ok (.func fn first cap) w:=λ_ _ _ _=>rfl
 have hv:=λ(w:World) h1 h2 h3=>Kc bars aT aP aS cT cP cS ts ps ss w h1 h2 h3
 generalize hA:(⟨bars,ts,ps,ss⟩:Clk)=clk at *;have HT:=qh hT;have HP:=qh hP;have HS:=qh hS;have HV:=qh hv;clear hT hP hS hA hv;generalize ts.length=nT at *;generalize ps.length=nP at *;generalize ss.length=nS at *;have b0:Below w.heap.size w ((w.alloc (.cells #[int i64 bars,.slice aT nT cT,.slice aP nP cP,.slice aS nS cS] 63)).alloc (.cells #[int i64 0] 33)):=((Below.refl _ w).alloc (qn _) _).alloc (by simp) _;have hz:((w.alloc (.cells #[int i64 bars,.slice aT nT cT,.slice aP nP cP,.slice aS nS cS] 63)).alloc (.cells #[int i64 0] 33)).heap.size=w.heap.size+2:=by simp
 have g0:((w.alloc (.cells #[int i64 bars,.slice aT nT cT,.slice aP nP cP,.slice aS nS cS] 63)).alloc (.cells #[int i64 0] 33)).heap[w.heap.size]?=some (.cells #[int i64 bars,.slice aT nT cT,.slice aP nP cP,.slice aS nS cS] 63 (0,0)):=by
  rw [Below.heap_alloc _ _ _ (by simp)];exact heap_alloc_new w _
 have g1:((w.alloc (.cells #[int i64 bars,.slice aT nT cT,.slice aP nP cP,.slice aS nS cS] 63)).alloc (.cells #[int i64 0] 33)).heap[w.heap.size+1]?=some (.cells #[int i64 0] 33 (0,0)):=by
  have:=heap_alloc_new (w.alloc (.cells #[int i64 bars,.slice aT nT cT,.slice aP nP cP,.slice aS nS cS] 63)) (.cells #[int i64 0] 33);simpa using this
 go_enter_defers Tryz.func21,Tryz.ntmps21;go_wp2_with fail;generalize (w.alloc (.cells #[int i64 bars,.slice aT nT cT,.slice aP nP cP,.slice aS nS cS] 63)).alloc (.cells #[int i64 0] 33)=w0 at *;refine (HV.out w0 (HT.out.below b0 (qn _)) (HP.out.below b0 (qn _)) (HS.out.below b0 (qn _))).mono ?_;rintro e w1 ⟨rfl,b1⟩;have y1:=(b1.block _ (by omega)).trans g1;have HB:=qh (b0.trans (b1.mono (by omega)));have Y1:=qh y1;clear b0 b1 g0 hz y1 g1;by_cases hc:CW clk=0
 ·have HC:=qh hc
  unfold Cr;rw [if_pos hc];clear hc;have c1:=cell_of_one Y1.out;have f1:=free_of_one Y1.out;go_wp2_with fail;refine QF _ (w.heap.size+1) _ _ (int i64 0) rfl (cell_of_one (one_setCell Y1.out)) ⟨DL HC.out.symm,HB.out.setCell (p:=⟨w.heap.size+1,0,none⟩) (by show w.heap.size≤w.heap.size+1;omega) _⟩
 ·have HC:=qh hc
  unfold Cr;rw [if_neg hc];unfold Ai;clear hc;go_wp2_with fail;refine O9 _ (w.heap.size+1) _ _ _ (int i64 0) rfl Y1.out (λw' hb=>⟨rfl,HB.out.trans (hb.mono (by omega))⟩)
end
section
open Go Go.RowKit
theorem NL(w:World):(Instr.typeAssert (.iface 56 (.agg #[])) 20 56 true).run Tryz.prog w=.ok (.tuple #[.agg #[],.bool true]) w:=by kernel_rfl
theorem L9(w:World):(binOp .eql 20 (.iface 56 (.agg #[])) .nilIface).run Tryz.prog w=.ok (.bool false) w:=by kernel_rfl
theorem KX(p:Addr)(w:World) :
  CallsD Tryz.prog 18 #[.pointer (some p)] .returning w λe u' w'=>e=.returned (.tuple #[])∧u'=.returning∧w=w':=by
 refine callsD_of_wpS Tryz.func18 rfl λc₀ cs hu=>?_
 apply wpS_seq;apply wpS_region;simp [wpOpsS,go_sem,recoverD,hu,Tryz.ntmps18,Exit.thenS];refine wpS_of_wp ?_;simp only [Array.replicate];go_wp2;cases c₀
 simp_all [bodyPostS,results,Tryz.results18]
theorem FV(B:Nat)(x:Value)(w:World)(h0:w.heap[B]?=some (.cells #[x] 33 (0,0))) :
  CallsD Tryz.prog 18 #[.pointer (some ⟨B,0,none⟩)] (.panicking [{ v:=.iface 56 (.agg #[]),recovered:=false }]) w λe u' w' =>
   e=.returned (.tuple #[])∧u'=.panicking [{ v:=.iface 56 (.agg #[]),recovered:=true }]∧w'.heap[B]?=some (.cells #[int i64 180] 33 (0,0))∧Below B w w':=by
 obtain ⟨V,hV,_,bV,_⟩:=Ag w #[] 56;have h1:=Ah bV h0;have c0:=cell_of_one h1;have f0:=free_of_one h1;have H0:=qh h1;have HB:=qh bV;have hA:Hid (B<w.heap.size):=qh (qs.1 h0).1;clear h0 h1 bV;refine callsD_of_wpS Tryz.func18 rfl λc₀ cs hu=>?_
 apply wpS_seq;apply wpS_region;simp [wpOpsS,go_sem,recoverD,hu,Tryz.ntmps18,Exit.thenS];refine wpS_of_wp ?_;have hB:=NL;have hC:=L9;simp only [Array.replicate];go_wp2;exact ⟨rfl,_,rfl,.tuple #[],results_none rfl _ _ _,rfl,rfl,one_setCell H0.out,(HB.out.mono (Nat.le_of_lt hA.out)).setCell (p:=⟨B,0,none⟩) (qn _) _⟩
abbrev Ee(E:Nat):Deferred:={ target:=.fn (.func 18) #[.pointer (some ⟨E,0,none⟩)],args:=#[] }
theorem Nx(t:Array Value)(B:Nat)(R:Ending→World→Prop)(w2:World)(x:Value)(hA:t.getD 2 undef=.pointer (some ⟨B,0,none⟩))
  (h0:w2.heap[B]?=some (.cells #[x] 33 (0,0))) (hR:∀w',Below B w2 w'→R (.returned (int i64 180)) w') :
  bodyPostD Tryz.prog Tryz.f7 R (Exit.panic BU)
   { tmps:=t,defers:=[Ee B] } w2:=by
 have HR:=qh hR;clear hR;refine leaves_cons (f:=18) (args:=#[.pointer (some ⟨B,0,none⟩)]) (by simp) (by simp [go_sem]) ?_;refine (FV B x _ h0).mono ?_;rintro e u' w'' ⟨rfl,rfl,k0,hB⟩;have c0:=cell_of_one k0;simp at hA;have HB:=qh hB;clear hB k0 h0;simp [Leaves,settle,results,Tryz.results7,go_sem,hA,c0];exact HR.out _ HB.out
theorem Q8(t:Array Value)(B:Nat)(R:Ending→World→Prop)(w2:World)(x:Value)(hA:t.getD 2 undef=.pointer (some ⟨B,0,none⟩))
  (h0:w2.cell? ⟨B,0,none⟩=some x) (hR:R (.returned x) w2) :
  bodyPostD Tryz.prog Tryz.f7 R Exit.ret { tmps:=t,defers:=[Ee B] } w2:=by
 have HR:=qh hR;clear hR;simp at hA;refine leaves_cons (f:=18) (args:=#[.pointer (some ⟨B,0,none⟩)]) (by simp) (by simp [go_sem]) ?_;refine (KX _ _).mono ?_;rintro e u' w'' ⟨rfl,rfl,rfl⟩;simp [Leaves,settle,results,Tryz.results7,go_sem,hA,h0];exact HR.out
theorem Dt{α:Type}{l:List α}{p:α→Prop}{i:Nat}{x:α}(h:∀y∈l.take i,p y)(hx:l[i]?=some x)(hp:p x):∀y∈l.take (i+1),p y:=by
 intro y hy;rw [List.take_add_one,hx] at hy;rcases List.mem_append.1 hy with hy|hy
 ·exact h y hy
 ·simp at hy;subst hy;exact hp
theorem CK{n lo hi:Int}{v:Bool}(h:inB n lo hi=v)(w:World):Calls Tryz.prog 20 #[int i64 n,int i64 lo,int i64 hi] w λe w'=>e=.returned (.bool v)∧w=w':=by
 rw [← h];exact BD n lo hi w
theorem Jv{s:Ls}{W:World}(h:s.At W){i:Nat}{x:Rol}(hi:s.roles[i]?=some x):∃b o,s.ra=some ⟨b,o,none⟩∧W.cell? ⟨b,o+i*4,none⟩=some (sv x.name)∧W.cell? ⟨b,o+i*4+1,none⟩=some (int i64 x.x)∧W.cell? ⟨b,o+i*4+2,none⟩=some (int i64 x.y)∧W.cell? ⟨b,o+i*4+3,none⟩=some (int i64 x.face):=by
 obtain ⟨b,o,h1,h2,_⟩:=h.roles.block hi;exact ⟨b,o,h1,h2 i x hi 0 _ rfl,h2 i x hi 1 _ rfl,h2 i x hi 2 _ rfl,h2 i x hi 3 _ rfl⟩
noncomputable def AP:Code:=(Tryz.f7.body).getD .skip
noncomputable def OI:Code:=qe 0 AP
noncomputable def OJ:Code:=qe 1 AP
noncomputable def OK:Code:=qe 2 AP
noncomputable def elem29n3:Code:=qe 3 AP
noncomputable def elem29n4:Code:=qe 4 AP
noncomputable def elem29n5:Code:=qe 5 AP
noncomputable def elem29n6:Code:=qe 6 AP
noncomputable def elem29n7:Code:=qe 7 AP
noncomputable def elem29n8:Code:=qe 8 AP
noncomputable def elem29n9:Code:=qe 9 AP
noncomputable def elem29n10:Code:=qe 10 AP
theorem RP:AP=.seq OI (Ab 1 AP):=rfl
theorem RQ:Ab 1 AP=.seq OJ (Ab 2 AP):=rfl
theorem RR:Ab 2 AP=.seq OK (Ab 3 AP):=rfl
theorem RS:Ab 3 AP=.seq elem29n3 (Ab 4 AP):=rfl
theorem RT:Ab 4 AP=.seq elem29n4 (Ab 5 AP):=rfl
theorem RU:Ab 5 AP=.seq elem29n5 (Ab 6 AP):=rfl
theorem RV:Ab 6 AP=.seq elem29n6 (Ab 7 AP):=rfl
theorem RW:Ab 7 AP=.seq elem29n7 (Ab 8 AP):=rfl
theorem RX:Ab 8 AP=.seq elem29n8 (Ab 9 AP):=rfl
theorem RY:Ab 9 AP=.seq elem29n9 (Ab 10 AP):=rfl
theorem Ug(s:Ls)(f:Nm→Int)(B E:Nat)(w W:World)(hs:RgS s f B w)(hb:Below w.heap.size w W)(ds:List Deferred)(Q:Exit→Act→World→Prop)
  (hN:(inB s.wd 1 1000&&inB s.dp 1 1000)=true→∀(x0 x3 x4 x5 x6 x7 x8 x9 bl bm bn bo bp bq br bs bt bu bv bw bx bz bA bB bC bD bE bF bG bH bI bJ bK bL bM bN bO bP bQ bR bS bT bU bV bW bX bY bZ ca cb cc cd ce cf cg ch ci cj ck cm cn co cp cq cr cs ct cu cv cw cx cy cz cA cB cC cD cE cF cG cH cI cJ cK cL cM cN cO cP cQ cR cS cT cU cV cW cX cY cZ da db dc dd de df dg dh di dj dk dl dm dn dq dr dt du dv dw dx:Value) (V:World),Below w.heap.size w V→Q .normal { tmps:=#[x0,.pointer (some ⟨B,0,none⟩),.pointer (some ⟨E,0,none⟩),x3,x4,x5,x6,x7,x8,x9,bl,bm,bn,bo,bp,bq,br,bs,bt,bu,bv,bw,bx,bz,bA,bB,bC,bD,bE,bF,bG,bH,bI,bJ,bK,bL,bM,bN,bO,bP,bQ,bR,bS,bT,bU,bV,bW,bX,bY,bZ,ca,cb,cc,cd,ce,cf,cg,ch,ci,cj,ck,cm,cn,co,cp,cq,cr,cs,ct,cu,cv,cw,cx,cy,cz,cA,cB,cC,cD,cE,cF,cG,cH,cI,cJ,cK,cL,cM,cN,cO,cP,cQ,cR,cS,cT,cU,cV,cW,cX,cY,cZ,da,db,dc,dd,de,df,dg,dh,di,dj,dk,dl,dm,dn,dq,dr,dt,du,dv,dw,dx],defers:=ds } V)
  (hP:(inB s.wd 1 1000&&inB s.dp 1 1000)=false→∀(t:Array Value) (V:World),t.getD 2 undef=.pointer (some ⟨E,0,none⟩)→Below w.heap.size w V→Q (.panic BU) { tmps:=t,defers:=ds } V) :
  elem29n3.wp Tryz.prog Q { tmps:=#[e0,.pointer (some ⟨B,0,none⟩),.pointer (some ⟨E,0,none⟩),e3,e4,e5,e6,e7,e8,e9,ea,eb,ec,ed,ee,ef,eg,eh,ei,ej,ek,el,em,en,eo,ep,eq,er,es,et,eu,ev,ew,ex,ey,ez,eA,eB,eC,eD,eE,eF,eG,eH,eI,eJ,eK,eL,eM,eN,eO,eP,eQ,eR,eS,eT,eU,eV,eW,eX,eY,eZ,aa,ab,ac,ae,af,ag,ah,ai,aj,ak,al,am,an,ao,ap,aq,ar,au,av,aw,ax,ay,az,aA,aB,aC,aD,aE,aF,aG,aH,aI,aJ,aK,aL,aM,aN,aO,aP,aQ,aR,aS,aT,aU,aV,aW,aX,aY,aZ,ba,bb,bc,bd,be,bf,bg,bh,bi,bj,bk],defers:=ds } W:=by
 have hS:=hs.below hb;have y1:W.cell? ⟨B,1,none⟩=some (int i64 s.wd):=Aa hS.box 1 rfl;have y2:W.cell? ⟨B,2,none⟩=some (int i64 s.dp):=Aa hS.box 2 rfl;have HN:=qh hN;have HP:=qh hP;have HB:=qh hb;clear hN hP hb hS hs
 cases hA:inB s.wd 1 1000 with
 | false =>
  have HC:Hid ((inB s.wd 1 1000&&inB s.dp 1 1000)=false):=qh (by rw [hA];rfl)
  conv=>arg 2;whnf
  go_wp2_with (first|(go_at_call 20;refine (CK (by assumption) _).mono ?_;rintro e w2 ⟨rfl,rfl⟩)|(go_at_call 19;first|(refine (Au _).mono ?_;rintro e w2 ⟨rfl,rfl⟩)|(refine (Am _).mono ?_;unfold Aj;rintro e w2 ⟨rfl,rfl⟩)));exact HP.out HC.out _ _ rfl HB.out
 | true =>
  cases hB:inB s.dp 1 1000 with
  | false =>
   have HC:Hid ((inB s.wd 1 1000&&inB s.dp 1 1000)=false):=qh (by rw [hA,hB];rfl)
   conv=>arg 2;whnf
   go_wp2_with (first|(go_at_call 20;refine (CK (by assumption) _).mono ?_;rintro e w2 ⟨rfl,rfl⟩)|(go_at_call 19;first|(refine (Au _).mono ?_;rintro e w2 ⟨rfl,rfl⟩)|(refine (Am _).mono ?_;unfold Aj;rintro e w2 ⟨rfl,rfl⟩)));exact HP.out HC.out _ _ rfl HB.out
  | true =>
   have HC:Hid ((inB s.wd 1 1000&&inB s.dp 1 1000)=true):=qh (by rw [hA,hB];rfl)
   conv=>arg 2;whnf
   go_wp2_with (first|(go_at_call 20;refine (CK (by assumption) _).mono ?_;rintro e w2 ⟨rfl,rfl⟩)|(go_at_call 19;first|(refine (Au _).mono ?_;rintro e w2 ⟨rfl,rfl⟩)|(refine (Am _).mono ?_;unfold Aj;rintro e w2 ⟨rfl,rfl⟩)));exact HN.out HC.out _ _ _ _ _ _ _ _ _ _ _ _ _ _ _ _ _ _ _ _ _ _ _ _ _ _ _ _ _ _ _ _ _ _ _ _ _ _ _ _ _ _ _ _ _ _ _ _ _ _ _ _ _ _ _ _ _ _ _ _ _ _ _ _ _ _ _ _ _ _ _ _ _ _ _ _ _ _ _ _ _ _ _ _ _ _ _ _ _ _ _ _ _ _ _ _ _ _ _ _ _ _ _ _ _ _ _ _ _ _ _ _ _ _ _ _ _ _ _ _ _ HB.out
theorem Uh(s:Ls)(f:Nm→Int)(B E:Nat)(w W:World)(hs:RgS s f B w)(hb:Below w.heap.size w W)(ds:List Deferred)(Q:Exit→Act→World→Prop)
  (hN:(inB s.t0 1 127&&inB s.t1 0 s.t0)=true→∀(x0 x3 x4 x5 x6 x7 x8 x9 bl bm bn bo bp bq br bs bt bu bv bw bx bz bA bB bC bD bE bF bG bH bI bJ bK bL bM bN bO bP bQ bR bS bT bU bV bW bX bY bZ ca cb cc cd ce cf cg ch ci cj ck cm cn co cp cq cr cs ct cu cv cw cx cy cz cA cB cC cD cE cF cG cH cI cJ cK cL cM cN cO cP cQ cR cS cT cU cV cW cX cY cZ da db dc dd de df dg dh di dj dk dl dm dn dp dq dr dt du dv dw:Value) (V:World),Below w.heap.size w V→Q .normal { tmps:=#[x0,.pointer (some ⟨B,0,none⟩),.pointer (some ⟨E,0,none⟩),x3,x4,x5,x6,x7,x8,x9,bl,bm,bn,bo,bp,bq,br,bs,bt,bu,bv,bw,bx,bz,bA,bB,bC,bD,bE,bF,bG,bH,bI,bJ,bK,bL,bM,bN,bO,bP,bQ,bR,bS,bT,bU,bV,bW,bX,bY,bZ,ca,cb,cc,cd,ce,cf,cg,ch,ci,cj,ck,cm,cn,co,cp,cq,cr,cs,ct,cu,cv,cw,cx,cy,cz,cA,cB,cC,cD,cE,cF,cG,cH,cI,cJ,cK,cL,cM,cN,cO,cP,cQ,cR,cS,cT,cU,cV,cW,cX,cY,cZ,da,db,dc,dd,de,df,dg,dh,di,dj,dk,dl,dm,dn,dp,dq,dr,dt,du,dv,dw],defers:=ds } V)
  (hP:(inB s.t0 1 127&&inB s.t1 0 s.t0)=false→∀(t:Array Value) (V:World),t.getD 2 undef=.pointer (some ⟨E,0,none⟩)→Below w.heap.size w V→Q (.panic BU) { tmps:=t,defers:=ds } V) :
  elem29n4.wp Tryz.prog Q { tmps:=#[e0,.pointer (some ⟨B,0,none⟩),.pointer (some ⟨E,0,none⟩),e3,e4,e5,e6,e7,e8,e9,ea,eb,ec,ed,ee,ef,eg,eh,ei,ej,ek,el,em,en,eo,ep,eq,er,es,et,eu,ev,ew,ex,ey,ez,eA,eB,eC,eD,eE,eF,eG,eH,eI,eJ,eK,eL,eM,eN,eO,eP,eQ,eR,eS,eT,eU,eV,eW,eX,eY,eZ,aa,ab,ac,ae,af,ag,ah,ai,aj,ak,al,am,an,ao,ap,aq,ar,au,av,aw,ax,ay,az,aA,aB,aC,aD,aE,aF,aG,aH,aI,aJ,aK,aL,aM,aN,aO,aP,aQ,aR,aS,aT,aU,aV,aW,aX,aY,aZ,ba,bb,bc,bd,be,bf,bg,bh,bi,bj,bk],defers:=ds } W:=by
 have hS:=hs.below hb;have y1:W.cell? ⟨B,4,none⟩=some (int i64 s.t0):=Aa hS.box 4 rfl;have y2:W.cell? ⟨B,5,none⟩=some (int i64 s.t1):=Aa hS.box 5 rfl;have HN:=qh hN;have HP:=qh hP;have HB:=qh hb;clear hN hP hb hS hs
 cases hA:inB s.t0 1 127 with
 | false =>
  have HC:Hid ((inB s.t0 1 127&&inB s.t1 0 s.t0)=false):=qh (by rw [hA];rfl)
  conv=>arg 2;whnf
  go_wp2_with (first|(go_at_call 20;refine (CK (by assumption) _).mono ?_;rintro e w2 ⟨rfl,rfl⟩)|(go_at_call 19;first|(refine (Au _).mono ?_;rintro e w2 ⟨rfl,rfl⟩)|(refine (Am _).mono ?_;unfold Aj;rintro e w2 ⟨rfl,rfl⟩)));exact HP.out HC.out _ _ rfl HB.out
 | true =>
  cases hB:inB s.t1 0 s.t0 with
  | false =>
   have HC:Hid ((inB s.t0 1 127&&inB s.t1 0 s.t0)=false):=qh (by rw [hA,hB];rfl)
   conv=>arg 2;whnf
   go_wp2_with (first|(go_at_call 20;refine (CK (by assumption) _).mono ?_;rintro e w2 ⟨rfl,rfl⟩)|(go_at_call 19;first|(refine (Au _).mono ?_;rintro e w2 ⟨rfl,rfl⟩)|(refine (Am _).mono ?_;unfold Aj;rintro e w2 ⟨rfl,rfl⟩)));exact HP.out HC.out _ _ rfl HB.out
  | true =>
   have HC:Hid ((inB s.t0 1 127&&inB s.t1 0 s.t0)=true):=qh (by rw [hA,hB];rfl)
   conv=>arg 2;whnf
   go_wp2_with (first|(go_at_call 20;refine (CK (by assumption) _).mono ?_;rintro e w2 ⟨rfl,rfl⟩)|(go_at_call 19;first|(refine (Au _).mono ?_;rintro e w2 ⟨rfl,rfl⟩)|(refine (Am _).mono ?_;unfold Aj;rintro e w2 ⟨rfl,rfl⟩)));exact HN.out HC.out _ _ _ _ _ _ _ _ _ _ _ _ _ _ _ _ _ _ _ _ _ _ _ _ _ _ _ _ _ _ _ _ _ _ _ _ _ _ _ _ _ _ _ _ _ _ _ _ _ _ _ _ _ _ _ _ _ _ _ _ _ _ _ _ _ _ _ _ _ _ _ _ _ _ _ _ _ _ _ _ _ _ _ _ _ _ _ _ _ _ _ _ _ _ _ _ _ _ _ _ _ _ _ _ _ _ _ _ _ _ _ _ _ _ _ _ _ _ _ _ _ HB.out
def BK(s:Ls)(x:Rol):Bool:=(inB x.x 0 s.wd&&(inB x.y 0 s.dp&&inB x.face 0 7))
theorem Ui(s:Ls)(f:Nm→Int)(B E:Nat)(w W:World)(hs:RgS s f B w)(hb:Below w.heap.size w W)(_hl:s.roles.length≤100000)(ds:List Deferred)(Q:Exit→Act→World→Prop)
  (hN:s.roles.all (BK s)=true→∀(x0 x3 x4 x5 x6 x7 x8 x9 bl bm bn bo bp bq br bs bt bu bv bw bx bz bA bB bC bD bE bF bG bH bI bJ bK bL bM bN bO bP bQ bR bS bT bU bV bW bX bY bZ ca cb cc cd ce cf cg ch ci cj ck cm cn co cp cq cr cs ct cu cv cw cx cy cz cA cB cC cD cE cF cG cH cI cJ cK cL cM cN cO cP cQ cR cS cT cU cV cW cX cY cZ da db dc dd de df dg dh di dj dk dl dm dn dq dr dt du dv dw dx:Value) (V:World),Below w.heap.size w V→Q .normal { tmps:=#[x0,.pointer (some ⟨B,0,none⟩),.pointer (some ⟨E,0,none⟩),x3,x4,x5,x6,x7,x8,x9,bl,bm,bn,bo,bp,bq,br,bs,bt,bu,bv,bw,bx,bz,bA,bB,bC,bD,bE,bF,bG,bH,bI,bJ,bK,bL,bM,bN,bO,bP,bQ,bR,bS,bT,bU,bV,bW,bX,bY,bZ,ca,cb,cc,cd,ce,cf,cg,ch,ci,cj,ck,cm,cn,co,cp,cq,cr,cs,ct,cu,cv,cw,cx,cy,cz,cA,cB,cC,cD,cE,cF,cG,cH,cI,cJ,cK,cL,cM,cN,cO,cP,cQ,cR,cS,cT,cU,cV,cW,cX,cY,cZ,da,db,dc,dd,de,df,dg,dh,di,dj,dk,dl,dm,dn,dq,dr,dt,du,dv,dw,dx],defers:=ds } V)
  (hP:s.roles.all (BK s)=false→∀(t:Array Value) (V:World),t.getD 2 undef=.pointer (some ⟨E,0,none⟩)→Below w.heap.size w V→Q (.panic BU) { tmps:=t,defers:=ds } V) :
  elem29n5.wp Tryz.prog Q { tmps:=#[e0,.pointer (some ⟨B,0,none⟩),.pointer (some ⟨E,0,none⟩),e3,e4,e5,e6,e7,e8,e9,ea,eb,ec,ed,ee,ef,eg,eh,ei,ej,ek,el,em,en,eo,ep,eq,er,es,et,eu,ev,ew,ex,ey,ez,eA,eB,eC,eD,eE,eF,eG,eH,eI,eJ,eK,eL,eM,eN,eO,eP,eQ,eR,eS,eT,eU,eV,eW,eX,eY,eZ,aa,ab,ac,ae,af,ag,ah,ai,aj,ak,al,am,an,ao,ap,aq,ar,au,av,aw,ax,ay,az,aA,aB,aC,aD,aE,aF,aG,aH,aI,aJ,aK,aL,aM,aN,aO,aP,aQ,aR,aS,aT,aU,aV,aW,aX,aY,aZ,ba,bb,bc,bd,be,bf,bg,bh,bi,bj,bk],defers:=ds } W:=by
 have hS:=hs.below hb;have y6:W.cell? ⟨B,6,none⟩=some (.slice s.ra s.roles.length s.rc):=Aa hS.box 6 rfl;have HN:=qh hN;have HP:=qh hP;have HB:=qh hb;have HS:=qh hs;clear hN hP hb hS hs;generalize hn:s.roles.length=n at *;have hG:=qh hn;clear hn
 conv=>arg 2;whnf
 go_wp2_with fail;go_loopw [42] (λiv wr=>∃i:Nat,iv=int i64 i∧i≤n∧Hid (∀x∈s.roles.take i,BK s x=true)∧Hid (Below w.heap.size w wr)) (λiv _=>n+1-(intOf iv).toNat)
 case atStart=>exact ⟨0,rfl,Nat.zero_le _,qh (by simp),HB⟩
 case round =>
  obtain ⟨i,rfl,hL,hH,hB⟩:=hrel;by_cases hK:i<n
  ·have hi:(i:Int)<(n:Int):=by omega
   obtain ⟨x,hx⟩:∃x,s.roles[i]?=some x:=⟨_,qg (by rw [hG.out];exact hK)⟩;have hC:=HS.out.below hB.out;obtain ⟨b,o,e,c0,c1,c2,c3⟩:=Jv hC.at_ hx;have y1:wr.cell? ⟨B,1,none⟩=some (int i64 s.wd):=Aa hC.box 1 rfl;have y2:wr.cell? ⟨B,2,none⟩=some (int i64 s.dp):=Aa hC.box 2 rfl;obtain ⟨W2,hM,gW2,bW2,sW2⟩:=Ag wr #[sv x.name,int i64 x.x,int i64 x.y,int i64 x.face] 60;have z1:=Aa gW2 1 rfl;have z2:=Aa gW2 2 rfl;have z3:=Aa gW2 3 rfl;have v1:=Ac bW2 y1;have v2:=Ac bW2 y2;have HX:=qh hx;have hD:=qh (Ad hB.out bW2);obtain ⟨r,hr⟩:∃r,BK s x=r:=⟨_,rfl⟩;have HR:=qh hr;generalize hI:s.ra=ra at *;subst e;have hO:=qh hI;clear hx hC gW2 bW2 sW2 hI hr
   cases hE:inB x.x 0 s.wd with
   | false =>
    have hc:BK s x=false:=by unfold BK;rw [hE];rfl
    have hA:s.roles.all (BK s)=false:=by
     rw [← Bool.not_eq_true,List.all_eq_true];intro h;rw [h x (List.mem_of_getElem? HX.out)] at hc;cases hc
    have HC:=qh hA;clear hc hA
    go_wp2_with (first|(go_at_call 20;refine (CK (by assumption) _).mono ?_;rintro e w2 ⟨rfl,rfl⟩)|(go_at_call 19;first|(refine (Au _).mono ?_;rintro e w2 ⟨rfl,rfl⟩)|(refine (Am _).mono ?_;unfold Aj;rintro e w2 ⟨rfl,rfl⟩)));exact HP.out HC.out _ _ rfl hD.out
   | true =>
    cases hF:inB x.y 0 s.dp with
    | false =>
     have hc:BK s x=false:=by unfold BK;rw [hE,hF];rfl
     have hA:s.roles.all (BK s)=false:=by
      rw [← Bool.not_eq_true,List.all_eq_true];intro h;rw [h x (List.mem_of_getElem? HX.out)] at hc;cases hc
     have HC:=qh hA;clear hc hA
     go_wp2_with (first|(go_at_call 20;refine (CK (by assumption) _).mono ?_;rintro e w2 ⟨rfl,rfl⟩)|(go_at_call 19;first|(refine (Au _).mono ?_;rintro e w2 ⟨rfl,rfl⟩)|(refine (Am _).mono ?_;unfold Aj;rintro e w2 ⟨rfl,rfl⟩)));exact HP.out HC.out _ _ rfl hD.out
    | true =>
     cases hJ:inB x.face 0 7 with
     | false =>
      have hc:BK s x=false:=by unfold BK;rw [hE,hF,hJ];rfl
      have hA:s.roles.all (BK s)=false:=by
       rw [← Bool.not_eq_true,List.all_eq_true];intro h;rw [h x (List.mem_of_getElem? HX.out)] at hc;cases hc
      have HC:=qh hA;clear hc hA
      go_wp2_with (first|(go_at_call 20;refine (CK (by assumption) _).mono ?_;rintro e w2 ⟨rfl,rfl⟩)|(go_at_call 19;first|(refine (Au _).mono ?_;rintro e w2 ⟨rfl,rfl⟩)|(refine (Am _).mono ?_;unfold Aj;rintro e w2 ⟨rfl,rfl⟩)));exact HP.out HC.out _ _ rfl hD.out
     | true =>
      have hc:BK s x=true:=by unfold BK;rw [hE,hF,hJ];rfl
      have HC:=qh hc;clear hc
      go_wp2_with (first|(go_at_call 20;refine (CK (by assumption) _).mono ?_;rintro e w2 ⟨rfl,rfl⟩)|(go_at_call 19;first|(refine (Au _).mono ?_;rintro e w2 ⟨rfl,rfl⟩)|(refine (Am _).mono ?_;unfold Aj;rintro e w2 ⟨rfl,rfl⟩)));go_roundw
      case rel=>exact ⟨i+1,by go_num,by omega,qh (Dt hH.out HX.out HC.out),hD⟩
      case measure=>simp [intOf];omega
  ·have:i=n:=by omega
   subst this;have hz:¬(i:Int)<(i:Int):=by omega
   have hA:s.roles.all (BK s)=true:=List.all_eq_true.2 (λx hx=>hH.out x (by rw [List.take_of_length_le (by rw [hG.out];exact qn _)];exact hx));have HC:=qh hA;clear hA;go_wp2_with fail;exact HN.out HC.out _ _ _ _ _ _ _ _ _ _ _ _ _ _ _ _ _ _ _ _ _ _ _ _ _ _ _ _ _ _ _ _ _ _ _ _ _ _ _ _ _ _ _ _ _ _ _ _ _ _ _ _ _ _ _ _ _ _ _ _ _ _ _ _ _ _ _ _ _ _ _ _ _ _ _ _ _ _ _ _ _ _ _ _ _ _ _ _ _ _ _ _ _ _ _ _ _ _ _ _ _ _ _ _ _ _ _ _ _ _ _ _ _ _ _ _ _ _ _ _ _ hB.out
end
section
open Go Go.RowKit Go.Deep
theorem Oe:∀x∈refWords,Av x=false:=by decide +kernel
theorem PG(s:Nm):Av s=(Bf s&&!decide (s∈refWords)):=by
 cases h1:Bf s with
 | false=>unfold Av;rw [h1];rfl
 | true =>
  by_cases h2:s∈refWords
  ·rw [Oe s h2,decide_eq_true h2];rfl
  ·rw [PH h1 h2,decide_eq_false h2];rfl
theorem Qf(s:Nm)(w:World):Calls Tryz.prog 99 #[sv s] w λe w'=>e=.returned (.bool (Bf s))∧w=w':=by
 by_cases hB:s.length≤32
 ·exact NF ⟨s.toArray⟩ w (by show s.length≤maxLen;unfold maxLen;omega)
 ·have hl:(32:Int)<((⟨s.toArray⟩:ByteArray).size:Int):=by show (32:Int)<(s.length:Int);omega
  have hC:¬((⟨s.toArray⟩:ByteArray).size:Int)<1:=by omega
  have hA:Bf s=false:=De (by omega);have HB:=qh hA;clear hA hB;unfold sv;generalize (⟨s.toArray⟩:ByteArray)=t at *;go_enter Tryz.func99,Tryz.ntmps99;go_wp2_with fail;go_ret;exact ⟨AT HB.out.symm,rfl⟩
theorem I4(s:Nm)(w:World):Calls Tryz.prog 80 #[sv s] w λe w'=>e=.returned (.bool (Av s))∧Below w.heap.size w w':=by
 have HC:=qh (Qf s w);have hA:=qh (TX s w);have HE:=qh (PG s);generalize Av s=r at *;generalize Bf s=b at *;generalize decide (s∈refWords)=d at *;go_enter Tryz.func80,Tryz.ntmps80
 cases b with
 | true =>
  go_wp2_with (first|(go_at_call 99;refine HC.out.mono ?_;rintro e w2 ⟨rfl,rfl⟩)|(go_at_call 100;refine hA.out.mono ?_;rintro e w3 ⟨rfl,hb⟩;have HB:=qh hb;clear hb));go_ret;exact ⟨by rw [HE.out];simp,HB.out⟩
 | false =>
  go_wp2_with (first|(go_at_call 99;refine HC.out.mono ?_;rintro e w2 ⟨rfl,rfl⟩));go_ret;exact ⟨by rw [HE.out];simp,Below.refl _ _⟩
def StrRow(W:World)(v:Value)(xs:List Nm):Prop:=∃ao c,v=.slice ao xs.length c∧xs.length≤c∧(xs=[]∨ao=some ⟨blk ao,0,none⟩)∧∀j nm,xs[j]?=some nm→W.cell? ⟨blk ao,j,none⟩=some (sv nm)
theorem StrRow.below{W W':World}{v:Value}{xs:List Nm}(h:StrRow W v xs)(hb:Below W.heap.size W W'):StrRow W' v xs:=by
 obtain ⟨ao,c,h1,h2,h3,h4⟩:=h;exact ⟨ao,c,h1,h2,h3,λj nm hj=>Ac hb (h4 j nm hj)⟩
theorem MI{w:World}{B:Nat}{v:Value}{xs:List Nm}(h:w.ownsRow B 9 1 v xs.length (xs.map sv)):StrRow w v xs:=by
 rcases h.2 with ⟨rfl,h0⟩|⟨g,cap,cur,rfl,hg,hh,h3,_⟩
 ·exact ⟨none,0,by rw [h0],by omega,Or.inl (List.length_eq_zero_iff.1 h0),λj nm hj=>by rw [List.length_eq_zero_iff.1 h0] at hj;simp at hj⟩
 ·refine ⟨_,cap,rfl,h3,Or.inr rfl,λj nm hj=>?_⟩
  have:=h.cells (g:=g) rfl j (sv nm) (by rw [List.getElem?_map,hj];rfl);rw [AM,Nat.zero_add] at this;exact this
theorem Jk(xs:List Nm)(v:Value)(W:World)(hr:StrRow W v xs)(hn:xs.length≤100000):Calls Tryz.prog 81 #[v] W λe w'=>e=.returned (.bool (xs.all Av))∧Below W.heap.size W w':=by
 obtain ⟨ao,c,rfl,hc,hf,hA⟩:=hr;obtain ⟨r,hr⟩:∃r,xs.all Av=r:=⟨_,rfl⟩;rw [hr];have hG:=qh hr;have HF:=qh hf;have HC:=qh hA;clear hr hf hA;obtain ⟨n,hD⟩:∃n,xs.length=n:=⟨_,rfl⟩;rw [hD] at hn hc ⊢;have HN:=qh hD;clear hD;go_enter Tryz.func81,Tryz.ntmps81;go_wp2_with fail;go_loopw [3] (λiv wr=>∃i:Nat,iv=int i64 i∧i≤n∧Hid (∀x∈xs.take i,Av x=true)∧Hid (Below W.heap.size W wr)) (λiv _=>n+1-(intOf iv).toNat)
 case atStart=>exact ⟨0,rfl,Nat.zero_le _,qh (by simp),qh (Below.refl _ _)⟩
 case round =>
  obtain ⟨i,rfl,hN,hH,hB⟩:=hrel;by_cases hJ:i<n
  ·have hi:(i:Int)<(n:Int):=by omega
   obtain ⟨x,hx⟩:∃x,xs[i]?=some x:=⟨_,qg (by rw [HN.out];exact hJ)⟩;have y1:=Ac hB.out (HC.out i x hx);have hK:=HF.out.resolve_left (λe=>by rw [e] at hx;simp at hx);have CN:=I4 x wr;obtain ⟨b,hb⟩:∃b,Av x=b:=⟨_,rfl⟩;rw [hb] at CN;have hI:=qh CN;have hE:=qh hb;have HX:=qh hx;clear CN hb hx;generalize hL:blk ao=bb at *;subst hK;clear hL HF
   cases b with
   | false =>
    have hM:Hid (r=false):=qh (by rw [← hG.out,← Bool.not_eq_true,List.all_eq_true];intro h;rw [h x (List.mem_of_getElem? HX.out)] at hE;exact absurd hE.out (by decide))
    go_wp2_with (go_at_call 80;refine hI.out.mono ?_;rintro e w5 ⟨rfl,hC⟩;have hF:=qh hC;clear hC);go_ret;exact ⟨by rw [hM.out];rfl,Ad hB.out hF.out⟩
   | true =>
    go_wp2_with (go_at_call 80;refine hI.out.mono ?_;rintro e w5 ⟨rfl,hC⟩;have hF:=qh hC;clear hC);go_roundw
    case rel=>exact ⟨i+1,by go_num,by omega,qh (Dt hH.out HX.out hE.out),qh (Ad hB.out hF.out)⟩
    case measure=>simp [intOf];omega
  ·have:i=n:=by omega
   subst this;have hz:¬(i:Int)<(i:Int):=by omega
   have HY:Hid (r=true):=qh (by rw [← hG.out];exact List.all_eq_true.2 (λx hx=>hH.out x (by rw [List.take_of_length_le (by rw [HN.out];exact qn _)];exact hx)));go_wp2_with fail;go_ret;exact ⟨by rw [HY.out];rfl,hB.out⟩
def Bi(xs:List Nm)(s:Nm):Int:=if s∈xs then (xs.idxOf s:Nat) else -1
theorem J9{s:Nm}:∀{xs:List Nm} {i:Nat},xs[i]?=some s→s∉xs.take i→xs.idxOf s=i
 | [],_,h,_=>by simp at h
 | a::r,0,h,_=>by
  have:a=s:=by simpa using h
  subst this;simp
 | a::r,i+1,h,hn=>by
  have h1:a≠s:=λe=>hn (by subst e;simp)
  have h2:=J9 (xs:=r) (i:=i) (by simpa using h) (λhm=>hn (by simp [hm]));rw [List.idxOf_cons];have:(a==s)=false:=by simpa using h1
  rw [this];simp [h2]
theorem Pc{xs:List Nm}{i:Nat}{s:Nm}(h:xs[i]?=some s)(hn:s∉xs.take i):Bi xs s=i:=by
 unfold Bi;rw [if_pos (List.mem_of_getElem? h),J9 h hn]
theorem Gb(xs:List Nm)(ao:Option Addr)(c:Nat)(s:Nm)(W:World)(hf:xs=[]∨ao=some ⟨blk ao,0,none⟩)(hA:∀j nm,xs[j]?=some nm→W.cell? ⟨blk ao,j,none⟩=some (sv nm))(hm:xs.length≤100000):Calls Tryz.prog 101 #[.slice ao xs.length c,sv s] W λe w'=>e=.returned (int i64 (Bi xs s))∧W=w':=by
 obtain ⟨n,hn⟩:∃n,xs.length=n:=⟨_,rfl⟩;obtain ⟨fi,hB⟩:∃fi,Bi xs s=fi:=⟨_,rfl⟩;rw [hn] at hm ⊢;rw [hB];have HR:=qh hA;have HN:=qh hn;have HF:=qh hf;have hC:=qh hB;clear hA hn hf hB;go_enter Tryz.func101,Tryz.ntmps101;go_wp2_with fail;go_loopw [4,5] (λrv iv wr=>∃i:Nat,iv=int i64 i∧rv=int i64 0∧i≤n∧Hid (s∉xs.take i)∧wr=W) (λ_ iv _=>n+1-(intOf iv).toNat)
 case atStart=>exact ⟨0,rfl,rfl,Nat.zero_le _,qh (by simp),rfl⟩
 case round =>
  obtain ⟨i,rfl,rfl,hG,hs,rfl⟩:=hrel;by_cases hD:i<n
  ·have hH:(i:Int)<(n:Int):=by omega
   obtain ⟨x,hx⟩:∃x,xs[i]?=some x:=⟨_,qg (by rw [HN.out];exact hD)⟩;have q0:=HR.out i x hx;have hE:=HF.out.resolve_left (λe=>by rw [e] at hx;simp at hx);have HX:=qh hx;clear hx;generalize hF:blk ao=bb at *;subst hE;clear hF HF;obtain ⟨b,hb⟩:∃b,(x==s)=b:=⟨_,rfl⟩
   cases b with
   | true =>
    have HE:Hid (fi=i):=qh (by
     have e:x=s:=by simpa using hb
     rw [← hC.out];exact Pc (by rw [← e];exact HX.out) hs.out)
    go_wp2_with fail;go_ret;exact ⟨by rw [HE.out];rfl,rfl⟩
   | false =>
    have HB:=qh hb;go_wp2_with fail;go_roundw
    case rel=>exact ⟨i+1,by go_num,rfl,by omega,qh (F0 HX.out hs.out HB.out),trivial⟩
    case measure=>simp [intOf];omega
  ·obtain rfl:i=n:=by omega
   have hz:¬(i:Int)<(i:Int):=by omega
   have h2:=hs.out;rw [← HN.out,List.take_length] at h2;have HE:Hid (fi=-1):=qh (by rw [← hC.out];unfold Bi;rw [if_neg h2]);clear h2 hs;go_wp2_with fail;go_ret;exact ⟨by rw [HE.out];rfl,rfl⟩
theorem LW{xs:List Nm}(h:∀i x,xs[i]?=some x→x∉xs.take i):xs.Nodup:=by
 unfold List.Nodup;rw [List.pairwise_iff_getElem];intro i j hi hj hA e;refine h j _ (qg hj) ?_;exact List.mem_of_getElem? (i:=i) (by rw [List.getElem?_take,if_pos hA,qg hi,e])
theorem R0:Tryz.prog.underlying 81=some (.slice (Tryz.prog.elem 81)):=by kernel_rfl
theorem Tg:(Tryz.prog.info? 9).map (λi=>(i.zero,i.size,i.bytes))=some (some (.string ⟨#[]⟩),1,16):=by kernel_rfl
theorem RZ(W:World):(sizeOf (Tryz.prog.elem 81)).run Tryz.prog W=.ok 1 W:=by
 have h1:Tryz.prog.elem 81=9:=by kernel_rfl
 obtain ⟨i0,hi,_,hA,_⟩:=info_parts Tg;rw [h1];simp [sizeOf,typeInfo,hi,hA]
theorem JZ{T:TypeId}{k:Nat}(hT:Tryz.prog.underlying T=some (.slice (Tryz.prog.elem T)))(hz:∀W,(sizeOf (Tryz.prog.elem T)).run Tryz.prog W=.ok k W)(b o n c i:Nat)(hi:i≤c)(h0:0<c)(W:World):(Instr.slice T (.slice (some ⟨b,o,none⟩) n c) none (some (int i64 (i:Int))) none).run Tryz.prog W=.ok (.slice (some ⟨b,o,none⟩) i c) W:=by
 rw [run_slice_h W T (some ⟨b,o,none⟩) n c hT .i64 (i:Int) (by omega) (by omega),hz];have e:((i:Int)).toNat=i:=by omega
 simp only [Result.andThen,sliced,e];by_cases h:c=0
 ·omega
 ·rw [if_neg (by omega),Nat.sub_zero,Nat.sub_zero]
  simp [Addr.add]
theorem Gs(xs:List Nm)(v:Value)(W:World)(hr:StrRow W v xs)(hn:xs.length≤100000):Calls Tryz.prog 82 #[v] W λe w'=>e=.returned (.bool (!decide xs.Nodup))∧Below W.heap.size W w':=by
 obtain ⟨ao,c,rfl,hc,hf,hC⟩:=hr;obtain ⟨r,hr⟩:∃r,(!decide xs.Nodup)=r:=⟨_,rfl⟩;rw [hr];have hF:=qh hr;have HF:=qh hf;have HC:=qh hC;clear hr hf hC;obtain ⟨n,hD⟩:∃n,xs.length=n:=⟨_,rfl⟩;rw [hD] at hn hc ⊢;have HN:=qh hD;clear hD;go_enter Tryz.func82,Tryz.ntmps82;go_wp2_with fail;go_loopw [3] (λiv wr=>∃i:Nat,iv=int i64 i∧i≤n∧Hid (∀j x,j<i→xs[j]?=some x→x∉xs.take j)∧Hid (Below W.heap.size W wr)) (λiv _=>n+1-(intOf iv).toNat)
 case atStart=>exact ⟨0,rfl,Nat.zero_le _,qh (λj x h=>absurd h (Nat.not_lt_zero _)),qh (Below.refl _ _)⟩
 case round =>
  obtain ⟨i,rfl,hS,hG,hB⟩:=hrel;by_cases hL:i<n
  ·have hi:(i:Int)<(n:Int):=by omega
   obtain ⟨x,hx⟩:∃x,xs[i]?=some x:=⟨_,qg (by rw [HN.out];exact hL)⟩;have y1:=HC.out i x hx;have hH:=HF.out.resolve_left (λe=>by rw [e] at hx;simp at hx);have hI:(xs.take i).length=i:=by rw [List.length_take,HN.out];omega
   have hM:Hid (∀V,Below W.heap.size W V→Calls Tryz.prog 101 #[.slice ao i c,sv x] V λe w'=>e=.returned (int i64 (Bi (xs.take i) x))∧V=w'):=qh (λV hV=>by
    have:=Gb (xs.take i) ao c x V (Or.inr hH) (λj nm hj=>Ac hV (HC.out j nm (by rw [List.getElem?_take] at hj;split at hj;exact hj;cases hj))) (by omega)
    rw [hI] at this;exact this)
   have HX:=qh hx;obtain ⟨b,hb⟩:∃b,decide (0≤Bi (xs.take i) x)=b:=⟨_,rfl⟩
   have hJ:Hid (b=true↔x∈xs.take i):=qh (by
    rw [← hb,decide_eq_true_eq];unfold Bi
    split
    ·rename_i h;exact ⟨λ_=>h,λ_=>by omega⟩
    ·rename_i h;exact ⟨λh2=>by omega,λh2=>absurd h2 h⟩)
   have hN:=hb;have hE:=JZ R0 RZ (blk ao) 0 n c i (by omega) (by omega);clear hx hb hI;generalize hO:blk ao=bb at *;subst hH;clear hO HF;generalize Bi (xs.take i) x=fi at *;go_wp2_with fail;refine wp_region_held (S:=λV=>Below W.heap.size W V) (by kernel_rfl) ?_;change wpAnyH _ _ _ _ _ _ _ _ wr.drew;have hA:Below W.heap.size W wr.drew:=Ad hB.out (Below.refl _ wr).drew;generalize wr.drew=Wd at *;refine tk 0 _ (.slice (some ⟨bb,0,none⟩) n c) rfl (λV hb=>by go_simp) hA ?_
   try simp only [Act.put,qA,qB,qC,qD,qE,qF]
   refine tk 1 _ (int i64 (i:Nat)) rfl (λV hb=>by go_simp) hA ?_
   try simp only [Act.put,qA,qB,qC,qD,qE,qF]
   refine tk 2 _ (.slice (some ⟨bb,0,none⟩) i c) rfl (λV hb=>by have q0:=hE;go_simp) hA ?_
   try simp only [Act.put,qA,qB,qC,qD,qE,qF]
   refine tk 3 _ (.slice (some ⟨bb,0,none⟩) n c) rfl (λV hb=>by go_simp) hA ?_
   try simp only [Act.put,qA,qB,qC,qD,qE,qF]
   refine tk 4 _ (int i64 (i:Nat)) rfl (λV hb=>by go_simp) hA ?_
   try simp only [Act.put,qA,qB,qC,qD,qE,qF]
   refine tk 5 _ (.pointer (some ⟨bb,i,none⟩)) rfl (λV hb=>by have q0:=hi;go_simp) hA ?_
   try simp only [Act.put,qA,qB,qC,qD,qE,qF]
   refine tk 6 _ (sv x) rfl (λV hb=>by have q0:=Ac hb y1;go_simp) hA ?_
   try simp only [Act.put,qA,qB,qC,qD,qE,qF]
   refine tr 7 _ (by kernel_rfl) rfl λK1 hK=>?_
   go_simp;refine (hM.out Wd hA).mono ?_;rintro e w5 ⟨rfl,rfl⟩;refine hK.out _ _ hA (λ_=>?_);clear hK K1
   try simp only [Act.put,qA,qB,qC,qD,qE,qF]
   refine tk 8 _ (.bool b) rfl (λV hb=>by have q0:=hN;go_simp) hA ?_
   try simp only [Act.put,qA,qB,qC,qD,qE,qF]
   refine wpAnyH_done (by kernel_rfl) ?_ _
   cases b with
   | true =>
    have hP:Hid (r=true):=qh (by
     rw [← hF.out]
     have:¬xs.Nodup:=λhQ=>by
      obtain ⟨j,hj⟩:=List.getElem?_of_mem (hJ.out.1 rfl);rw [List.getElem?_take] at hj
      split at hj
      ·rename_i hR
       obtain ⟨h1,h2⟩:=ql.1 hj;obtain ⟨h3,h4⟩:=ql.1 HX.out;exact (List.pairwise_iff_getElem.1 hQ j i h1 h3 hR) (h2.trans h4.symm)
      ·cases hj
     rw [decide_eq_false this];rfl)
    have HS:=qh hA;clear hA;go_wp2_with fail;go_ret;exact ⟨by rw [hP.out];rfl,HS.out⟩
   | false =>
    have HK:Hid (∀j y,j<i+1→xs[j]?=some y→y∉xs.take j):=qh (λj y hj hy=>by
     by_cases e:j=i
     ·subst e
      have:=HX.out;rw [hy] at this;cases this;intro hm;have:=hJ.out.2 hm;cases this
     ·exact hG.out j y (by omega) hy)
    have HS:=qh hA;clear hA;go_wp2_with fail;go_roundw
    case rel=>exact ⟨i+1,by go_num,by omega,HK,HS⟩
    case measure=>simp [intOf];omega
  ·have:i=n:=by omega
   subst this;have hz:¬(i:Int)<(i:Int):=by omega
   have HY:Hid (r=false):=qh (by
    rw [← hF.out,decide_eq_true (LW (λj x hx=>hG.out j x (by rw [← HN.out];exact (ql.1 hx).1) hx))];rfl)
   go_wp2_with fail;go_ret;exact ⟨by rw [HY.out];rfl,hB.out⟩
theorem FH{P:Program}{ops:Array Oper}{S:World→Prop}{op:Oper}{a:Act}(hw:Region.wanted op (yielded ops a.tmps)=true)(ty:TypeId)(x:Operand)(ho:op.op=.load ty x)
  (g:Nat) (hx:a.eval x=.pointer (some ⟨g,0,none⟩)) (t:TypeId) (cs:Array Value) (fr:Nat×Nat) (d:TypeDesc) (hS:∀w,S w→w.heap[g]?=some (.cells cs t fr))
  (hu:P.underlying ty=some d) (hd:(match d with|.struct _|.array _ _=>true|_=>false)=true) (hi:(P.info? ty).map (·.size)=some cs.size):YieldsIf P ops S op (.agg cs) a :=
 .inl ⟨hw,λw hA=>by
  unfold execOp
  simp only [ho,hx,Instr.loadAt,Instr.sureAddr,Sem.run_bind,Sem.run_pure,Result.andThen_ok,run_loadVar_row w g t ty cs fr d (hS w hA) hu hd hi]⟩
theorem Fw(W:World)(B:Nat)(cs:Array Value)(b:Nat)(h:b≠B):(W.setRow B cs).heap[b]?=W.heap[b]?:=by
 simp only [World.setRow];rw [Array.getElem?_modify,if_neg (λe=>h e.symm)]
def ptN(xs:List Nm)(used:Bool)(nm:Nm)(k:Int):Int:=if used then Bi xs nm else k
def ptB(xs:List Nm)(used:Bool)(nm:Nm)(k:Int):Bool:=if used then decide (nm∈xs) else decide (nm=[]∧k=0)
def JI(xs:List Nm)(used:Bool)(nm:Nm)(k:Int)(w:World)(e:Ending)(w':World):Prop:=e=.returned (.tuple #[.agg #[sv nm,int i64 (ptN xs used nm k)],.bool (ptB xs used nm k)])∧Below w.heap.size w w'
theorem R2(xs:List Nm)(nm:Nm):decide (0≤Bi xs nm)=decide (nm∈xs):=by
 unfold Bi
 split
 ·rename_i h;rw [decide_eq_true h,decide_eq_true (by omega)]
 ·rename_i h;rw [decide_eq_false h,decide_eq_false (by omega)]
theorem ED(xs:List Nm)(v:Value)(used:Bool)(nm:Nm)(k:Int)(w:World)(hr:StrRow w v xs)(hn:xs.length≤100000):Calls Tryz.prog 84 #[.agg #[sv nm,int i64 k],.bool used,v] w (JI xs used nm k w):=by
 obtain ⟨W1,hU,g1,b1,s1⟩:=Ag w #[sv nm,int i64 k] 44;obtain ⟨C,hC⟩:∃C,W1.heap.size=C:=⟨_,rfl⟩;obtain ⟨W2,hV,g2,b2,s2⟩:=Ag W1 #[.string ⟨#[]⟩,int i64 0] 44;have hI:=qh (Ah b2 g1);rw [hC] at g2;have hE:=qh g2;have HB:=qh (Ad b1 b2);have hF:Hid (w.heap.size<C):=qh (by omega);have hJ:=qh (hr.below (Ad b1 b2));have y0:W2.cell? ⟨w.heap.size,0,none⟩=some (sv nm):=Aa hI.out 0 rfl;have hW:=qh hC;clear g1 g2 b1 b2 s1 s2 hr
 cases used with
 | false =>
  clear y0;go_enter Tryz.func84,Tryz.ntmps84;go_wp2_with fail;refine wp_region_held (S:=λV=>V.heap[w.heap.size]?=some (.cells #[sv nm,int i64 k] 44 (0,0))) (by kernel_rfl) ?_;change wpAnyH _ _ _ _ _ _ _ _ W2.drew;have hB:W2.drew.heap[w.heap.size]?=some (.cells #[sv nm,int i64 k] 44 (0,0)):=hI.out;have hL:W2.drew.heap[C]?=some (.cells #[.string ⟨#[]⟩,int i64 0] 44 (0,0)):=hE.out;have hO:Below w.heap.size w W2.drew:=HB.out.drew;generalize W2.drew=Wd at *;refine tq 0 _ (.agg #[sv nm,int i64 k]) rfl (by kernel_rfl) (λ_ _ _ h=>h) (FH rfl 44 _ rfl w.heap.size rfl 44 #[sv nm,int i64 k] (0,0) _ (λ_ h=>h) Tryz.underlying44 rfl (by kernel_rfl)) hB ?_
  try simp only [Act.put,qA,qB,qC,qD,qE,qF]
  refine tq 1 _ (.agg #[sv nm,int i64 k]) rfl (by kernel_rfl) (λ_ _ _ h=>h) (FH rfl 44 _ rfl w.heap.size rfl 44 #[sv nm,int i64 k] (0,0) _ (λ_ h=>h) Tryz.underlying44 rfl (by kernel_rfl)) hB ?_
  try simp only [Act.put,qA,qB,qC,qD,qE,qF]
  refine tk 2 _ (.agg #[.string ⟨#[]⟩,int i64 0]) rfl (λV hb=>by go_simp) hB ?_
  try simp only [Act.put,qA,qB,qC,qD,qE,qF]
  refine tk 3 _ (.bool (decide (nm=[]∧k=0))) rfl (λV hb=>by have q0:=P5 nm k V;go_simp;by_cases h1:nm=[]<;>by_cases h2:k=0<;>simp [h1,h2]) hB ?_
  try simp only [Act.put,qA,qB,qC,qD,qE,qF]
  refine tr 4 _ (by kernel_rfl) rfl λK1 hK=>?_
  rw [if_pos (by rfl)];refine wp_store_row 44 _ _ rfl C #[sv nm,int i64 k] rfl rfl 44 _ hL (by kernel_rfl) rfl (by simp [Value.oneCell']) ?_;obtain ⟨W3,hD,g3,b3⟩:=AC (cs:=#[sv nm,int i64 k]) hL hO (Nat.le_of_lt hF.out)
  have hM:W3.heap[w.heap.size]?=some (.cells #[sv nm,int i64 k] 44 (0,0)):=by
   rw [← hD];exact (Fw _ _ _ _ (by have:=hF.out;omega)).trans hB
  rw [hD];refine hK.out _ _ hM (λ_=>?_);clear hK K1
  try simp only [Act.put,qA,qB,qC,qD,qE,qF]
  refine tk 5 _ (.bool (decide (nm=[]∧k=0))) rfl (λV hb=>by go_simp) hM ?_
  try simp only [Act.put,qA,qB,qC,qD,qE,qF]
  refine wpAnyH_done (by kernel_rfl) ?_ _;go_wp2_with fail;refine bodyPost_ret (v:=.tuple #[.agg #[sv nm,int i64 k],.bool (decide (nm=[]∧k=0))]) ?_ rfl ?_
  ·have z0:=Aa g3 0 rfl;have z1:=Aa g3 1 rfl
   simp [results,Tryz.results84,go_sem,z0,z1]
  ·exact ⟨rfl,b3⟩
 | true =>
  obtain ⟨ao,c,rfl,hc,hf,hA⟩:=hJ.out;have C1:=Gb xs ao c nm W2 hf hA hn;obtain ⟨fi,hG⟩:∃fi,Bi xs nm=fi:=⟨_,rfl⟩;have hH:=R2 xs nm;rw [hG] at C1 hH;have hP:=qh C1;have hQ:=qh hG;have hR:=qh hH;clear hc hf hA C1 hG hH hJ;obtain ⟨W3,hD,g3,b3⟩:=AC (cs:=#[sv nm,int i64 fi]) hE.out HB.out (Nat.le_of_lt hF.out);have hS:=qh hD;have hN:=qh g3;have hT:=qh b3;clear hD g3 b3;go_enter Tryz.func84,Tryz.ntmps84
  go_wp2_with (first|(go_at_call 101;refine hP.out.mono ?_;rintro e w5 ⟨rfl,rfl⟩)|(refine wpList_store_row rfl 44 _ _ rfl C #[sv nm,int i64 fi] rfl rfl 44 _ hE.out (by kernel_rfl) rfl (by simp [Value.oneCell']) ?_;rw [hS.out]));refine bodyPost_ret (v:=.tuple #[.agg #[sv nm,int i64 fi],.bool (decide (0≤fi))]) ?_ rfl ?_
  ·have z0:=Aa hN.out 0 rfl;have z1:=Aa hN.out 1 rfl
   simp [results,Tryz.results84,go_sem,z0,z1]
  ·exact ⟨by rw [hR.out,← hQ.out];rfl,hT.out⟩
def Cw(k:Int):Bool:=decide (k=7)||decide (k=8)
def Cd(k:Int):Bool:=decide (k=4)
theorem Qa(R Q:List Nm)(kd:Int)(nm:Nm)(n:Int):BJ R Q (D9 kd,nm) n=if ptB R (Cw kd) nm n=true then some (ptN R (Cw kd) nm n) else none:=by
 unfold BJ D9 ptB ptN Cw Bi;by_cases h:kd=7∨kd=8
 ·have hu:(decide (kd=7)||decide (kd=8))=true:=by simpa using h
  rw [if_pos h,hu];by_cases hm:nm∈R<;>simp [hm]
 ·have hu:(decide (kd=7)||decide (kd=8))=false:=by simpa using h
  rw [if_neg h,hu];by_cases h1:nm=[]<;>by_cases h2:n=0<;>simp [h1,h2]
theorem M2(R Q:List Nm)(kd:Int)(nm:Nm)(n:Int):BJ R Q (BE kd,nm) n=if ptB Q (Cd kd) nm n=true then some (ptN Q (Cd kd) nm n) else none:=by
 unfold BJ BE ptB ptN Cd Bi;by_cases h:kd=4
 ·rw [if_pos h,decide_eq_true h]
  by_cases hm:nm∈Q<;>simp [hm]
 ·rw [if_neg h,decide_eq_false h]
  by_cases h1:nm=[]<;>by_cases h2:n=0<;>simp [h1,h2]
def BZ(R:List Nm):List Mov→List Int→Option (List Int)
 | [],[]=>some []
 | m::ms,n::ns=>if ptB R (Cw m.kind) m.wn n=true∧Br m=true then (BZ R ms ns).map (ptN R (Cw m.kind) m.wn n::·) else none
 | _,_=>none
theorem Jj(R Q:List Nm):∀(ms:List Mov) (ns:List Int),ns.length=ms.length→BZ R ms ns=if ms.all Br=true then Ax R Q (ms.map λm=>(D9 m.kind,m.wn)) ns else none
 | [],[],_=>rfl
 | m::ms,n::ns,h=>by
  have ih:=Jj R Q ms ns (by simpa using h);unfold BZ;rw [ih];simp only [List.all_cons,List.map_cons,Ax,Qa];cases Br m<;>cases ptB R (Cw m.kind) m.wn n<;>cases ms.all Br<;>simp;cases Ax R Q (ms.map λm=>(D9 m.kind,m.wn)) ns<;>simp
 | [],n::ns,h=>by simp at h
 | m::ms,[],h=>by simp at h
def FO(k:Int):Bool:=decide (1≤k)&&decide (k≤4)
def BA(R Q:List Nm)(T:Its)(ns:List Int):Option (List Int):=if T.kinds=true then Ax R Q T.refs ns else none
theorem LJ(R Q:List Nm){k n:Int}{un:Nm}{its:Its}{ms:List Mov}{r:Its}{u:Int}{m1 m2 m3:List Int}(h1:m1.length=ms.length)(h2:m2.length=its.refs.length) :
  BA R Q (.cons k n un its ms r) (u::(m1++(m2++m3)))=if ptB Q (Cd k) un u=true∧FO k=true then (BZ R ms m1).bind λa=>(BA R Q its m2).bind λb=>(BA R Q r m3).map λc=>ptN Q (Cd k) un u::(a++(b++c)) else none:=by
 rw [Jj R Q ms m1 h1];unfold BA FO;simp only [Its.kinds,Its.refs,Ax];rw [C8 _ _ (by simpa using h1),C8 _ _ h2,M2];generalize (decide (1≤k)&&decide (k≤4))=b1;generalize ms.all Br=b2;generalize its.kinds=b3;generalize r.kinds=b4;generalize ptB Q (Cd k) un u=b5;cases b1<;>cases b2<;>cases b3<;>cases b4<;>cases b5<;>simp <;>
  (cases Ax R Q (ms.map λm=>(D9 m.kind,m.wn)) m1<;>cases Ax R Q its.refs m2<;>cases Ax R Q r.refs m3<;>simp)
def DI(R Q:List Nm)(ps:List Phr)(ns:List Int):Option (List Int):=if (ps.all λp=>p.items.kinds)=true then Ax R Q (ps.flatMap λp=>p.items.refs) ns else none
theorem LY(R Q:List Nm){p:Phr}{ps:List Phr}{m1 m2:List Int}(h:m1.length=p.items.refs.length) :
  DI R Q (p::ps) (m1++m2)=(BA R Q p.items m1).bind λa=>(DI R Q ps m2).map λc=>a++c:=by
 unfold DI BA;simp only [List.all_cons,List.flatMap_cons];rw [C8 _ _ h];generalize p.items.kinds=b1;generalize (ps.all λp=>p.items.kinds)=b2;cases b1<;>cases b2<;>simp <;>
  (cases Ax R Q p.items.refs m1<;>cases Ax R Q (ps.flatMap λp=>p.items.refs) m2<;>simp)
def DO(R Q:List Nm)(ds:List Dan)(ns:List Int):Option (List Int):=Ax R Q (ds.flatMap λd=>[(1,d.rn),(2,d.pn)]) ns
theorem G9(R Q:List Nm){d:Dan}{ds:List Dan}{u v:Int}{m:List Int} :
  DO R Q (d::ds) (u::v::m)=if d.rn∈R then (if d.pn∈Q then (DO R Q ds m).map λc=>Bi R d.rn::Bi Q d.pn::c else none) else none:=by
 unfold DO Bi;simp only [List.flatMap_cons,List.cons_append,List.nil_append,Ax,BJ];by_cases h1:d.rn∈R<;>by_cases h2:d.pn∈Q<;>simp [h1,h2] <;>
  (cases Ax R Q (ds.flatMap λd=>[(1,d.rn),(2,d.pn)]) m<;>simp)
theorem Nc(s:Sc){k1 k2:List Int}(h:k1.length=(s.phrases.flatMap λp=>p.items.refs).length) :
  s.idx (k1++k2)=(DI s.rnames s.pnames s.phrases k1).bind λa=>(DO s.rnames s.pnames s.dances k2).map λb=>a++b:=by
 unfold Sc.idx DI DO Sc.kinds Sc.refs;rw [C8 _ _ h];generalize (s.phrases.all λp=>p.items.kinds)=b1;cases b1<;>simp <;>
  (cases Ax s.rnames s.pnames (s.phrases.flatMap λp=>p.items.refs) k1<;>cases Ax s.rnames s.pnames (s.dances.flatMap λd=>[(1,d.rn),(2,d.pn)]) k2<;>simp)
def MvNew(lo:Nat)(ms:List Mov)(m1:List Int)(ma5:Option Addr)(W5:World):Prop :=
 (ms=[]∨(ma5=some ⟨blk ma5,0,none⟩∧lo≤blk ma5∧FreeB W5 (blk ma5)))∧B8 W5 (blk ma5) 0 ms∧NsAt W5 (Aq (blk ma5) 0 ms) m1
structure CpT(T:Lt)(w:World)(b o i:Nat)(A R:Lt)(n1 n2:List Int)(v:Value)(xs:List Value)(W:World):Prop where
 strip:A.strip.app R.strip=T.strip
 len:A.len=i
 size:R.size≤T.size
 own:W.ownsRow w.heap.size 48 6 v i xs
 inn:A.Inn W n1 xs
 atR:R.At w b (o+i*6)
 nsR:NsAt w (R.refsL b (o+i*6)) n2
 apart:A.blocks.Nodup
 fresh:∀c∈A.blocks,w.heap.size≤c∧FreeB W c
 vown:∀k,v.ownBlock=some k→k∉A.blocks
 small:R.small
 below:Below w.heap.size w W
theorem Mx{T:Lt}{w:World}{b o i X:Nat}{A:Lt}{n1 n2 n3 m1 m2:List Int}{k n' u:Int}{un:Nm}{ia:Option Addr}{ic:Nat}{its:Lt}{ma:Option Addr}{mc:Nat}{ms:List Mov}{r:Lt}{v v':Value}{xs:List Value}
  {W W5 W6 W7 W9 W10:World} {ma5 ao:Option Addr} {mc5 co:Nat}
  (h:CpT T w b o i A (.cons k n' un ia ic its ma mc ms r) n1 n2 v xs W) (k3:NsAt w (r.refsL b (o+i*6+6)) n3) (hX:X=W.heap.size)
  (hK:Below W.heap.size W W5) (hO:X<W5.heap.size) (h5:MvNew (X+1) ms m1 ma5 W5) (b56:ButOne X W5 W6) (h7:ClP its m2 W6 (.returned (.slice ao its.len co)) W7) (b79:ButOne X W7 W9)
  (hH:W10.ownsRow w.heap.size 48 6 v' (i+1) (xs++[int i64 k,int i64 n',sv un,int i64 u,.slice ao its.len co,.slice ma5 ms.length mc5])) (hg:W9.grownBy W10 v.ownBlock) (hE:v'.ownBlock=v.ownBlock∨v'.ownBlock=some W9.heap.size) :
  ∃A',CpT T w b o (i+1) A' r (n1++(u::(m1++m2))) n3 v' (xs++[int i64 k,int i64 n',sv un,int i64 u,.slice ao its.len co,.slice ma5 ms.length mc5]) W10:=by
 obtain ⟨p1,p2,p3⟩:=h5;obtain ⟨ao',c',its',e,q1,q2,q3,q4,q5,q6,q7⟩:=h7;injection e with e;injection e with e1 e2 e3;subst e1 e3;have hI:its'.len=its.len:=Lt.same_len q1;have hL:=h.below.size;have s56:=b56.size;have s67:=q7.size;have s79:=b79.size;have b06:Below W.heap.size W W6:=hK.trans (b56.below (by omega) (by omega));have b07:Below W.heap.size W W7:=b06.trans (q7.mono (by omega));have b09:Below W.heap.size W W9:=b07.trans (b79.below (by omega) (by omega));have hC:∀k,v.ownBlock=some k→w.heap.size≤k∧k<W.heap.size:=h.own.lt;have b10:Below w.heap.size w W10:=(h.below.trans (b09.mono hL)).grown hg (by omega) λk hk=>(hC k hk).1
 -- blocks of the copied items stay
 have keepA:∀c∈A.blocks,W10.heap[c]?=W.heap[c]?:=λc hc=>by
  have hM:=(h.fresh c hc).2.lt;rw [hg.block c (by omega) (λe=>h.vown c e.symm hc)];exact b09.block c hM
 -- new blocks stay
 have keep5:∀c,X<c→c<W5.heap.size→W10.heap[c]?=W5.heap[c]?:=λc h1 h2=>by
  rw [hg.block c (by omega) (λe=>by have:=hC c e.symm;omega),b79.block c (by omega) (by omega),q7.block c (by omega),b56.block c h2 (by omega)]
 have keep7:∀c,W6.heap.size≤c→c<W7.heap.size→W10.heap[c]?=W7.heap[c]?:=λc h1 h2=>by
  rw [hg.block c (by omega) (λe=>by have:=hC c e.symm;omega),b79.block c h2 (by omega)]
 have cellOf:∀{W W':World} {c:Nat},W'.heap[c]?=W.heap[c]?→∀q v,W.cell? ⟨c,q,none⟩=some v→W'.cell? ⟨c,q,none⟩=some v:=λhb q v hc=>(World.cell?_of_block hb).trans hc
 have freeOf:∀{W W':World} {c:Nat},W'.heap[c]?=W.heap[c]?→FreeB W c→FreeB W' c:=λhb hf=>by
  obtain ⟨cur,t,hf⟩:=hf;exact ⟨cur,t,hb.trans hf⟩
 have hD:ms≠[]→X<blk ma5∧blk ma5<W5.heap.size∧FreeB W5 (blk ma5)∧ma5=some ⟨blk ma5,0,none⟩∧off ma5=0:=λhm=>by
  obtain ⟨a1,a2,a3⟩:=p1.resolve_left hm;have e0:off ma5=0:=by rw [a1];rfl
  exact ⟨by omega,a3.lt,a3,a1,e0⟩
 have hB:∀c∈its'.own ao,W6.heap.size≤c∧c<W7.heap.size∧FreeB W7 c:=λc hc=>⟨(q5 c hc).1,(q5 c hc).2.lt,(q5 c hc).2⟩
 refine ⟨A.app (.cons k n' un ao co its' ma5 mc5 ms .nil),?_,?_,?_,hH,?_,?_,?_,?_,?_,?_,?_,b10⟩
 ·rw [Lt.app_strip,Its.app_assoc,← h.strip]
  simp [Lt.strip,Its.app,q1]
 ·rw [Lt.app_len,h.len];rfl
 ·have:=h.size
  simp only [Lt.size] at this;omega
 ·refine (h.inn.kept λc hc q v hv=>cellOf (keepA c hc) q v hv).app ⟨u,m1,m2,[],[],by simp,by rw [hI],⟨?_,?_,?_,?_⟩,⟨?_,?_,?_,?_⟩,rfl,rfl⟩
  ·by_cases hm:ms=[]
   ·exact Or.inl hm
   ·obtain ⟨_,_,_,a4,a5⟩:=hD hm
    right;rw [a5];exact a4
  ·exact h.atR.2.1.2.1
  ·by_cases hm:ms=[]
   ·subst hm;trivial
   ·obtain ⟨a1,a2,_,_,a5⟩:=hD hm
    rw [a5];exact BR p2 λq v _=>cellOf (keep5 _ a1 a2) q v
  ·by_cases hm:ms=[]
   ·subst hm
    cases m1 with
    | nil=>trivial
    | cons=>exact p3.elim
   ·obtain ⟨a1,a2,_,_,a5⟩:=hD hm
    rw [a5]
    exact p3.kept λx hx v hv=>by
     rw [Ge hx] at hv ⊢;exact cellOf (keep5 _ a1 a2) _ _ hv
  ·rcases q2 with q2|q2
   ·exact Or.inl (by omega)
   ·right
    have e0:off ao=0:=by rw [q2];rfl
    rw [e0];exact q2
  ·rw [hI];exact h.atR.2.2.1.2.1
  ·by_cases hz:its'.len=0
   ·rw [Lt.len_zero hz];trivial
   ·have e0:off ao=0:=by rw [q2.resolve_left (by omega)];rfl
    have hJ:blk ao∈its'.own ao:=by unfold Lt.own;simp [hz]
    rw [e0]
    exact q3.kept (λq v _=>cellOf (keep7 _ (hB _ hJ).1 (hB _ hJ).2.1) q v) (λc hc q v=>by
     have hF:c∈its'.own ao:=by unfold Lt.own;simp [hc]
     exact cellOf (keep7 _ (hB _ hF).1 (hB _ hF).2.1) q v)
  ·by_cases hz:its'.len=0
   ·have:=Lt.len_zero hz
    subst this
    cases m2 with
    | nil=>trivial
    | cons=>exact q4.elim
   ·have e0:off ao=0:=by rw [q2.resolve_left (by omega)];rfl
    rw [e0]
    exact q4.kept λx hx v hv=>by
     have hF:x.b∈its'.own ao:=by
      rcases Lt.refsL_mem hx with ⟨e,_⟩|e
      ·rw [e];unfold Lt.own;simp [hz]
      ·unfold Lt.own;simp [e]
     exact cellOf (keep7 _ (hB _ hF).1 (hB _ hF).2.1) _ _ hv
 ·rw [show o+(i+1)*6=o+i*6+6 by omega];exact h.atR.2.2.2
 ·rw [show o+(i+1)*6=o+i*6+6 by omega];exact k3
 ·rw [Lt.app_blocks]
  simp only [Lt.blocks,List.append_nil];refine List.nodup_append.2 ⟨h.apart,List.nodup_append.2 ⟨?_,q6,?_⟩,?_⟩
  ·split<;>simp
  ·intro x hx y hy e
   subst e
   split at hx
   ·cases hx
   ·rename_i hm
    rw [List.mem_singleton.1 hx] at hy;have:=hD hm;have:=hB _ hy;omega
  ·intro x hx y hy e
   subst e;have hN:=(h.fresh x hx).2.lt;rcases List.mem_append.1 hy with hy|hy
   ·split at hy
    ·cases hy
    ·rename_i hm
     rw [List.mem_singleton.1 hy] at hN;have:=hD hm;omega
   ·have:=hB _ hy
    omega
 ·intro c hc
  rw [Lt.app_blocks] at hc;simp only [Lt.blocks,List.append_nil] at hc;rcases List.mem_append.1 hc with hc|hc
  ·exact ⟨(h.fresh c hc).1,freeOf (keepA c hc) (h.fresh c hc).2⟩
  ·rcases List.mem_append.1 hc with hc|hc
   ·split at hc
    ·cases hc
    ·rename_i hm
     rw [List.mem_singleton.1 hc];obtain ⟨a1,a2,a3,_⟩:=hD hm;exact ⟨by omega,freeOf (keep5 _ a1 a2) a3⟩
   ·obtain ⟨a1,a2,a3⟩:=hB _ hc
    exact ⟨by omega,freeOf (keep7 _ a1 a2) a3⟩
 ·intro c hc hm
  rw [Lt.app_blocks] at hm;simp only [Lt.blocks,List.append_nil] at hm
  have hG:c∈A.blocks∨(X<c∧c<W7.heap.size):=by
   rcases List.mem_append.1 hm with hm|hm
   ·exact Or.inl hm
   ·right
    rcases List.mem_append.1 hm with hm|hm
    ·split at hm
     ·cases hm
     ·rename_i hz
      rw [List.mem_singleton.1 hm];have:=hD hz;omega
    ·have:=hB _ hm
     omega
  rcases hE with hE|hE
  ·rw [hE] at hc
   rcases hG with hA|hA
   ·exact h.vown c hc hA
   ·have:=hC c hc;omega
  ·rw [hE] at hc
   cases hc;rcases hG with hA|hA
   ·have:=(h.fresh _ hA).2.lt;omega
   ·omega
 ·exact h.small.2.2.2
theorem SU{T:Lt}{w:World}{b o i:Nat}{A:Lt}{n1 n2:List Int}{v:Value}{xs:List Value}{W:World}(h:CpT T w b o i A .nil n1 n2 v xs W):ClP T n1 w (.returned v) W:=by
 obtain ⟨ao,c,rfl,h1,h2,h3,h4,h5⟩:=GF (by omega) h.own;have hA:=h.strip;simp only [Lt.strip] at hA;rw [Its.app_nil] at hA;have hB:i=T.len:=by rw [← h.len];exact Lt.same_len hA
 obtain ⟨r1,r2⟩:=h.inn.row (g:=blk ao) (o:=0) h5;have hz:A.len=0→A.blocks=[]:=λe=>by rw [Lt.len_zero e];rfl
 refine ⟨ao,c,A,by rw [hB],hA,?_,r1,r2,?_,?_,h.below⟩
 ·rcases h1 with h1|h1
  ·exact Or.inl (by omega)
  ·exact Or.inr h1.1
 ·intro c hc
  unfold Lt.own at hc;rcases List.mem_append.1 hc with hc|hc
  ·split at hc
   ·cases hc
   ·rename_i h0
    rw [List.mem_singleton.1 hc];rw [h.len] at h0;exact ⟨(h1.resolve_left h0).2.1,(h1.resolve_left h0).2.2⟩
  ·exact h.fresh c hc
 ·unfold Lt.own
  split
  ·exact h.apart
  ·rename_i h0
   rw [h.len] at h0;refine List.nodup_cons.2 ⟨h.vown _ ?_,h.apart⟩;have e:=(h1.resolve_left h0).1;rw [h4,e];rfl
def Gg(m:Mov)(n:Int):List Value:=[int i64 m.mark,int i64 m.kind,int i64 m.side,int i64 m.dir,int i64 m.level,int i64 m.size,sv m.wn,int i64 n,int i64 m.fa,int i64 m.fb,int i64 m.ta,int i64 m.tb]
def C5:List Mov→List Int→List Value
 | m::ms,n::ns=>Gg m n++C5 ms ns
 | _,_=>[]
theorem Fi:∀{A:List Mov} {n1:List Int} (m:Mov) (n:Int),n1.length=A.length→C5 (A++[m]) (n1++[n])=C5 A n1++Gg m n
 | [],[],m,n,_=>by simp [C5]
 | a::A,k::n1,m,n,h=>by simp [C5,Fi m n (show n1.length=A.length by simpa using h)]
 | [],_::_,_,_,h=>by simp at h
 | _::_,[],_,_,h=>by simp at h
theorem I3{W:World}{g:Nat}:∀{A:List Mov} {n1:List Int} {o:Nat},n1.length=A.length→(∀j u,(C5 A n1)[j]?=some u→W.cell? ⟨g,o+j,none⟩=some u)→B8 W g o A∧NsAt W (Aq g o A) n1
 | [],[],_,_,_=>⟨trivial,trivial⟩
 | m::A,n::n1,o,h,hc=>by
  have hA:∀j u,(C5 A n1)[j]?=some u→W.cell? ⟨g,o+12+j,none⟩=some u:=λj u hj=>by
   have:=hc (12+j) u (by simp only [C5];rw [List.getElem?_append_right (by simp [Gg])];simpa [Gg] using hj)
   rwa [← Nat.add_assoc] at this
  obtain ⟨r1,r2⟩:=I3 (A:=A) (n1:=n1) (o:=o+12) (by simpa using h) hA;have c:=λ(j:Nat) (u:Value) (hj:(Gg m n)[j]?=some u)=>hc j u (by simp only [C5];rw [List.getElem?_append_left (ql.1 hj).1];exact hj)
  exact ⟨⟨⟨c 0 _ rfl,c 1 _ rfl,c 2 _ rfl,c 3 _ rfl,c 4 _ rfl,c 5 _ rfl,c 6 _ rfl,c 8 _ rfl,c 9 _ rfl,c 10 _ rfl,c 11 _ rfl⟩,r1⟩,⟨c 7 _ rfl,r2⟩⟩
 | [],_::_,_,h,_=>by simp at h
 | _::_,[],_,h,_=>by simp at h
theorem FT(m:Mov)(n:Int):∀u∈Gg m n,u.oneCell'=true:=by
 intro u hu;unfold Gg at hu;simp only [List.mem_cons,List.mem_nil_iff,or_false] at hu;rcases hu with rfl|rfl|rfl|rfl|rfl|rfl|rfl|rfl|rfl|rfl|rfl|rfl<;>rfl
structure MvS(Rn:List Nm)(ms:List Mov)(ns:List Int)(w:World)(b o i:Nat)(A R:List Mov)(n1 n2:List Int)(v:Value)(W:World):Prop where
 parts:A++R=ms
 len:A.length=i
 ln:n1.length=i
 res:BZ Rn ms ns=(BZ Rn R n2).map (n1++·)
 atR:B8 w b (o+i*12) R
 nsR:NsAt w (Aq b (o+i*12) R) n2
 own:W.ownsRow w.heap.size 77 12 v i (C5 A n1)
 below:Below w.heap.size w W
def MovP(Rn:List Nm)(ms:List Mov)(ns:List Int)(w:World)(e:Ending)(w':World):Prop :=
 (∃a ma mc,BZ Rn ms ns=some a∧e=.returned (.tuple #[.slice ma ms.length mc,.bool true])∧MvNew w.heap.size ms a ma w'∧Below w.heap.size w w') ∨
 (BZ Rn ms ns=none∧e=.returned (.tuple #[.slice none 0 0,.bool false])∧Below w.heap.size w w')
theorem KR(Rn:List Nm)(ms:List Mov)(ns:List Int)(w:World)(b o:Nat)(h:B8 w b o ms)(hn:NsAt w (Aq b o ms) ns):MvS Rn ms ns w b o 0 [] ms [] ns (.slice none 0 0) w :=
 ⟨rfl,rfl,rfl,by simp,by simpa using h,by simpa using hn,World.ownsRow_nil _ _ _ _,Below.refl _ _⟩
theorem PF{Rn:List Nm}{ms:List Mov}{ns:List Int}{w:World}{b o i:Nat}{A:List Mov}{n1 n2:List Int}{v:Value}{W:World}(h:MvS Rn ms ns w b o i A [] n1 n2 v W):MovP Rn ms ns w (.returned (.tuple #[v,.bool true])) W:=by
 have hB:n2=[]:=by
  have:=h.nsR
  cases n2 with
  | nil=>rfl
  | cons=>exact this.elim
 have hA:A=ms:=by have:=h.parts;simpa using this
 have hr:=h.res;rw [hB] at hr;simp only [BZ,Option.map_some,List.append_nil] at hr;obtain ⟨ao,c,rfl,h1,h2,h3,h4,h5⟩:=GF (by omega) h.own;have hl:i=ms.length:=by rw [← h.len,hA]
 obtain ⟨r1,r2⟩:=I3 (g:=blk ao) (o:=0) (by rw [h.ln,h.len]) h5;rw [hA] at r1 r2;refine Or.inl ⟨n1,ao,c,hr,by rw [hl],⟨?_,r1,r2⟩,h.below⟩;rcases h1 with h1|h1
 ·exact Or.inl (List.length_eq_zero_iff.1 (by omega))
 ·exact Or.inr h1
theorem Rl{Rn:List Nm}{ms:List Mov}{ns:List Int}{w:World}{b o i:Nat}{A R:List Mov}{m:Mov}{n1 n2:List Int}{n:Int}{v v':Value}{W W':World}(h:MvS Rn ms ns w b o i A (m::R) n1 (n::n2) v W)
  (hp:ptB Rn (Cw m.kind) m.wn n=true) (hk:Br m=true) (ho:W'.ownsRow w.heap.size 77 12 v' (i+1) (C5 A n1++Gg m (ptN Rn (Cw m.kind) m.wn n))) (hb:Below w.heap.size w W') :
  MvS Rn ms ns w b o (i+1) (A++[m]) R (n1++[ptN Rn (Cw m.kind) m.wn n]) n2 v' W':=by
 refine ⟨by rw [← h.parts];simp,by simp [h.len],by simp [h.ln],?_,?_,?_,?_,hb⟩
 ·rw [h.res]
  conv=>lhs;unfold BZ
  rw [if_pos ⟨hp,hk⟩];cases BZ Rn R n2<;>simp
 ·rw [show o+(i+1)*12=o+i*12+12 by omega];exact h.atR.2
 ·rw [show o+(i+1)*12=o+i*12+12 by omega];exact h.nsR.2
 ·rw [Fi _ _ (by rw [h.ln,h.len])];exact ho
theorem Ti{Rn:List Nm}{ms:List Mov}{ns:List Int}{w:World}{b o i:Nat}{A R:List Mov}{m:Mov}{n1 n2:List Int}{n:Int}{v:Value}{W W':World}(h:MvS Rn ms ns w b o i A (m::R) n1 (n::n2) v W)
  (hk:¬(ptB Rn (Cw m.kind) m.wn n=true∧Br m=true)) (hb:Below w.heap.size w W'):MovP Rn ms ns w (.returned (.tuple #[.slice none 0 0,.bool false])) W':=by
 refine Or.inr ⟨?_,rfl,hb⟩;rw [h.res]
 conv=>lhs;unfold BZ
 rw [if_neg hk]
 rfl
end
section
open Go Go.RowKit
theorem Ka{l:List Tmp}{i:Nat}{t:Tmp}{x:Int}(hs:Ez l)(ht:l[i]?=some t)(h1:t.bar≤x)(h2:∀t',l[i+1]?=some t'→x<t'.bar):Co l x=i+1:=by
 have a:=(Dj (bar:=x) hs ht).1 h1;have hB:=FC l x;by_cases e:i+1<l.length
 ·have hA:=qg e
  have b:=Dj (bar:=x) hs hA;have c:=h2 _ hA;have:¬i+1<Co l x:=λq=>by have:=b.2 q;omega
  omega
 ·omega
def Cv(bars:Int)(l:List Tmp)(i:Nat):Int:=match l[i+1]? with
 | some t=>t.bar-1
 | none=>bars-1
def IP(bars:Int)(l:List Tmp)(i:Nat):Bool:=inB (Bm l (l[i]!.bar)) 1 65536&&inB (Bm l (Cv bars l i)) 1 65536
theorem Ir{l:List Tmp}:∀n,C0 l n=true↔∀k:Nat,k<n→inB (Bm l k) 1 65536=true
 | 0=>by simp [C0]
 | n+1=>by
  unfold C0;rw [Bool.and_eq_true,Ir n]
  constructor
  ·rintro ⟨h1,h2⟩ k hk
   by_cases e:k=n
   ·rw [e];exact h2
   ·exact h1 k (by omega)
  ·intro h
   exact ⟨λk hk=>h k (by omega),h n (by omega)⟩
theorem Jy{l:List Tmp}(hs:Ez l){i j:Nat}{a b:Tmp}(hi:l[i]?=some a)(hj:l[j]?=some b)(h:i<j):a.bar<b.bar:=by
 obtain ⟨h1,e1⟩:=ql.1 hi;obtain ⟨h2,e2⟩:=ql.1 hj;have:=List.pairwise_iff_getElem.1 hs i j h1 h2 h
 rwa [e1,e2] at this
theorem El{l:List Tmp}{i:Nat}{t:Tmp}{x:Int}(ht:l[i]?=some t)(hu:Co l x=i+1):Bm l x=t.ticks+(x-t.bar)*t.step:=by
 unfold Bm;simp only [hu,Nat.add_sub_cancel];rw [show l[i]! = t by simp [ht]]
theorem FQ{bars:Int}{l:List Tmp}{i:Nat}{t:Tmp}(hb:Bn bars (-1) l=true)(ht:l[i]?=some t):t.bar≤Cv bars l i∧Cv bars l i≤bars-1:=by
 obtain ⟨hs,hA⟩:=CD hb;have h1:=hA t (List.mem_of_getElem? ht);unfold Cv
 cases h:l[i+1]? with
 | none=>simp only;omega
 | some t' =>
  have h2:=Jy hs ht h (by omega);have h3:=hA t' (List.mem_of_getElem? h);simp only;omega
theorem NU{bars:Int}{l:List Tmp}{t0:Tmp}(hb:Bn bars (-1) l=true)(h0:l[0]?=some t0)(hz:t0.bar=0):C0 l bars.toNat=true↔∀i,i<l.length→IP bars l i=true:=by
 obtain ⟨hs,hD⟩:=CD hb;rw [Ir]
 constructor
 ·intro h i hi
  have ht:=qg hi;have h1:=hD _ (List.mem_of_getElem? ht);have h2:=FQ hb ht;unfold IP;rw [Bool.and_eq_true];have e:l[i]! = l[i]:=by simp [hi]
  rw [e];refine ⟨?_,?_⟩
  ·have:=h l[i].bar.toNat (by omega)
   rwa [show ((l[i].bar.toNat:Nat):Int)=l[i].bar by omega] at this
  ·have:=h (Cv bars l i).toNat (by omega)
   rwa [show (((Cv bars l i).toNat:Nat):Int)=Cv bars l i by omega] at this
 ·intro h k hk
  have hp:0<Co l (k:Int):=FD h0 (by omega);have hH:=FC l (k:Int);obtain ⟨i,hi⟩:∃i,Co l (k:Int)=i+1:=⟨Co l (k:Int)-1,by omega⟩;have hE:i<l.length:=by omega
  have ht:=qg hE;have e:l[i]! = l[i]:=by simp [hE]
  have hA:=h i hE;unfold IP at hA;rw [Bool.and_eq_true,e,AR,AR] at hA;have h1:l[i].bar≤(k:Int):=(Dj hs ht).2 (by omega)
  have hG:∀t',l[i+1]?=some t'→(k:Int)<t'.bar:=λt' hB=>by
   have:=Dj (bar:=(k:Int)) hs hB;by_cases q:t'.bar≤(k:Int)
   ·have:=this.1 q;omega
   ·omega
  have h2:(k:Int)≤Cv bars l i:=by
   unfold Cv
   cases q:l[i+1]? with
   | none=>simp only;omega
   | some t'=>have:=hG t' q;simp only;omega
  have hC:=FQ hb ht;have u2:Co l l[i].bar=i+1:=Ka hs ht (Int.le_refl _) λt' hB=>Jy hs ht hB (by omega)
  have u3:Co l (Cv bars l i)=i+1:=Ka hs ht hC.1 λt' hB=>by unfold Cv;rw [hB];simp only;omega
  rw [El ht u2,El ht u3] at hA;rw [AR,El ht hi];obtain ⟨⟨a1,a2⟩,a3,a4⟩:=hA;rw [Int.sub_self,Int.zero_mul,Int.add_zero] at a1 a2;generalize l[i].bar=b at *;generalize l[i].ticks=T at *;generalize l[i].step=s at *;generalize Cv bars l i=L at *;by_cases hF:0≤s
  ·have m1:(k-b)*s≤(L-b)*s:=Int.mul_le_mul_of_nonneg_right (by omega) hF
   have m2:0≤(k-b)*s:=Int.mul_nonneg (by omega) hF;omega
  ·have m1:(k-b)*(-s)≤(L-b)*(-s):=Int.mul_le_mul_of_nonneg_right (by omega) (by omega)
   have m2:0≤(k-b)*(-s):=Int.mul_nonneg (by omega) (by omega);rw [Int.mul_neg,Int.mul_neg] at m1;rw [Int.mul_neg] at m2;omega
end
section
open Go Go.RowKit
open Go Go.RowKit Go.Deep
theorem Pf{a b:Nat}(h:0<b):Nat.gcd b (a % b)=Nat.gcd a b:=by
 rw [Nat.gcd_comm a b,Nat.gcd_rec b a,Nat.gcd_comm]
theorem Q7(a b:Nat)(ha:a≤1099511627776)(hb:b≤1099511627776)(w:World):Calls Tryz.prog 118 #[int i64 a,int i64 b] w λe w'=>e=.returned (int i64 (Nat.gcd a b))∧w'=w:=by
 go_enter Tryz.func118,Tryz.ntmps118;go_wp2_with fail;go_loopw [0,1] (λav bv wr=>∃x y:Nat,av=int i64 x∧bv=int i64 y∧x≤1099511627776∧y≤1099511627776∧Hid (Nat.gcd x y=Nat.gcd a b)∧wr=w) (λ_ bv _=>(intOf bv).toNat)
 case atStart=>exact ⟨a,b,rfl,rfl,ha,hb,qh rfl,rfl⟩
 case round =>
  obtain ⟨x,y,rfl,rfl,hx,hy,hG,rfl⟩:=hrel;by_cases h0:y=0
  ·subst h0
   have HG:=qh (show x=Nat.gcd a b by rw [← hG.out,Nat.gcd_zero_right]);clear hG;go_wp2_with fail;go_ret;exact ⟨by rw [← HG.out];rfl,rfl⟩
  ·have h1:(0:Int)<(y:Int):=by omega
   have hm:Int.tmod (x:Int) (y:Int)=((x % y:Nat):Int):=rfl;have hB:x % y<y:=Nat.mod_lt _ (by omega);have hA:Nat.gcd y (x % y)=Nat.gcd a b:=by rw [Pf (by omega),hG.out]
   have HG:=qh hA;clear hG hA;generalize x % y=z at *;go_wp2_with fail;go_roundw
   case rel=>exact ⟨y,z,by go_num,by go_num,hy,by omega,HG,trivial⟩
   case measure=>simp [intOf]<;>omega
theorem NJ(n:Int)(h1:-1099511627776≤n)(h2:n≤1099511627776)(w:World):Calls Tryz.prog 119 #[int i64 n] w λe w'=>e=.returned (int i64 (n.natAbs:Nat))∧w'=w:=by
 by_cases h0:n<0
 ·have h3:((n.natAbs:Nat):Int)=-n:=by omega
  go_enter Tryz.func119,Tryz.ntmps119;go_wp2_with fail;go_ret
  first|exact ⟨rfl,rfl⟩|exact ⟨by rw [h3];rfl,rfl⟩
 ·have h3:((n.natAbs:Nat):Int)=n:=by omega
  go_enter Tryz.func119,Tryz.ntmps119;go_wp2_with fail;go_ret
  first|exact ⟨rfl,rfl⟩|exact ⟨by rw [h3];rfl,rfl⟩
theorem Cq{B:Nat}{a w:World}(h:Below B a w)(n:Nat):Below B a (w.drewN n):=⟨h.os,h.tape,h.output,h.size,h.block⟩
theorem Ei(n d:Int)(w:World):Calls Tryz.prog 108 #[.agg #[int i64 n,int i64 d]] w λe w'=>e=.returned (.bool (BL n d))∧Below w.heap.size w w':=by
 have g0:=heap_alloc_new w (.cells #[int i64 n,int i64 d] 75);have b0:Below w.heap.size w (w.alloc (.cells #[int i64 n,int i64 d] 75)):=(Below.refl _ w).alloc (qn _) _;obtain ⟨r,hr⟩:∃r,BL n d=r:=⟨_,rfl⟩;have HR:=qh hr;rw [hr];clear hr
 have no:BL n d=false→∀W:World,Below w.heap.size w W→(.returned (.bool false):Ending)=.returned (.bool r)∧Below w.heap.size w W:=λh W hb=>⟨by rw [← HR.out,h],hb⟩
 have NO:=qh no;clear no;go_enter Tryz.func108,Tryz.ntmps108;go_wp2_with fail;generalize w.alloc (.cells #[int i64 n,int i64 d] 75)=w0 at *;have c0:w0.cell? ⟨w.heap.size,0,none⟩=some (int i64 n):=Aa g0 0 rfl;have c1:w0.cell? ⟨w.heap.size,1,none⟩=some (int i64 d):=Aa g0 1 rfl;have HB:=qh b0;clear g0 b0;by_cases h1:1≤d
 case neg =>
  have HX:=qh (λq=>NO.out (by unfold BL inB;simp [h1]) _ (Cq HB.out q));go_quiet (fail);go_wp2_with fail;go_ret;exact HX.out _
 by_cases h2:d≤1073741824
 case neg =>
  have HX:=qh (λq=>NO.out (by unfold BL inB;simp [h2]) _ (Cq HB.out q));go_quiet (fail);go_wp2_with fail;go_ret;exact HX.out _
 by_cases h3:-1073741824≤n
 case neg =>
  have HX:=qh (λq=>NO.out (by unfold BL inB;simp [h3]) _ (Cq HB.out q));go_quiet (fail);go_wp2_with fail;go_ret;exact HX.out _
 by_cases h4:n≤1073741824
 case neg =>
  have HX:=qh (λq=>NO.out (by unfold BL inB;simp [h4]) _ (Cq HB.out q));go_quiet (fail);go_wp2_with fail;go_ret;exact HX.out _
 have k1:∀W:World,Calls Tryz.prog 119 #[int i64 n] W λe w'=>e=.returned (int i64 (n.natAbs:Nat))∧w'=W:=λW=>NJ n (by omega) (by omega) W
 have k2:∀W:World,Calls Tryz.prog 118 #[int i64 (n.natAbs:Nat),int i64 d] W λe w'=>e=.returned (int i64 (Nat.gcd n.natAbs d.natAbs))∧w'=W:=λW=>by
  have:=Q7 n.natAbs d.natAbs (by omega) (by omega) W
  rwa [show ((d.natAbs:Nat):Int)=d by omega] at this
 have hr:r=decide (Nat.gcd n.natAbs d.natAbs=1):=by rw [← HR.out];unfold BL inB;simp [h1,h2,h3,h4]
 have hA:(((Nat.gcd n.natAbs d.natAbs:Nat):Int)==1)=r:=by rw [hr,Bool.eq_iff_iff,beq_iff_eq,decide_eq_true_eq];omega
 have K1:=qh k1;have K2:=qh k2;have HG:=qh hA;clear k1 k2 hr hA NO HR;obtain ⟨g,hg⟩:∃g,Nat.gcd n.natAbs d.natAbs=g:=⟨_,rfl⟩;obtain ⟨na,hB⟩:∃x,n.natAbs=x:=⟨_,rfl⟩;rw [hg] at K2 HG;rw [hB] at K1 K2;clear hg hB;go_quiet (first|(go_at_call 119;refine Calls.quiet_of_same (K1.out _))|(go_at_call 118;refine Calls.quiet_of_same (K2.out _)));go_wp2_with fail;go_ret;exact ⟨by rw [← HG.out];rfl,Cq HB.out _⟩
theorem Fr(n d:Int)(w:World):Calls Tryz.prog 96 #[.agg #[int i64 n,int i64 d]] w λe w'=>e=.returned (int i64 (if BL n d then 0 else 120))∧Below w.heap.size w w':=by
 have g0:=heap_alloc_new w (.cells #[int i64 n,int i64 d] 75);have b0:Below w.heap.size w (w.alloc (.cells #[int i64 n,int i64 d] 75)):=(Below.refl _ w).alloc (qn _) _;have hA:=λW=>Ei n d W
 generalize BL n d=r at hA ⊢;have hB:=qh hA;clear hA;cases r
 all_goals
  go_enter Tryz.func96,Tryz.ntmps96;go_wp2_with fail;generalize w.alloc (.cells #[int i64 n,int i64 d] 75)=w0 at *;have HV:=qh (hB.out w0);have HB:=qh b0;clear b0 hB;go_wp2_with fail;refine HV.out.mono ?_;rintro e w1 ⟨rfl,hb⟩;have hC:=qh (HB.out.trans (hb.mono HB.out.size));clear HV hb;go_wp2_with fail;go_ret;exact ⟨rfl,hC.out⟩
theorem Nw(n d n2 d2:Int)(h1:BL n d=true)(h2:BL n2 d2=true)(w:World):Calls Tryz.prog 109 #[.agg #[int i64 n,int i64 d],.agg #[int i64 n2,int i64 d2]] w λe w'=>e=.returned (.bool true)∧Below w.heap.size w w':=by
 have g0:=heap_alloc_new w (.cells #[int i64 n,int i64 d] 75);have b0:Below w.heap.size w (w.alloc (.cells #[int i64 n,int i64 d] 75)):=(Below.refl _ w).alloc (qn _) _;have g1:=heap_alloc_new (w.alloc (.cells #[int i64 n,int i64 d] 75)) (.cells #[int i64 n2,int i64 d2] 75);have b1:=b0.alloc b0.size (.cells #[int i64 n2,int i64 d2] 75);have hB:w.heap.size<(w.alloc (.cells #[int i64 n,int i64 d] 75)).heap.size:=by simp
 have k0:=(Below.heap_alloc _ (.cells #[int i64 n2,int i64 d2] 75) w.heap.size hB).trans g0;have hD:(w.alloc (.cells #[int i64 n,int i64 d] 75)).heap.size=w.heap.size+1:=by simp
 rw [hD] at g1;go_enter Tryz.func109,Tryz.ntmps109;go_wp2_with fail;generalize (w.alloc (.cells #[int i64 n,int i64 d] 75)).alloc (.cells #[int i64 n2,int i64 d2] 75)=w0 at *;have HV:=qh (Ei n d w0);rw [h1] at HV;have HB:=qh b1;have hG:=qh g1;have hE:w.heap.size+1<w0.heap.size:=(qs.1 g1).1;clear b0 b1 g0 hB;go_wp2_with fail;refine HV.out.mono ?_;rintro e w1 ⟨rfl,hb⟩;have hC:=qh (HB.out.trans (hb.mono HB.out.size));have g2:=(hb.block _ hE).trans g1;have c2:w1.cell? ⟨w.heap.size+1,0,none⟩=some (int i64 n2):=Aa g2 0 rfl;have c3:w1.cell? ⟨w.heap.size+1,1,none⟩=some (int i64 d2):=Aa g2 1 rfl;clear g2;have hA:=qh (Ei n2 d2 w1);rw [h2] at hA;clear HV hb g1 k0;go_wp2_with fail;refine hA.out.mono ?_;rintro e w2 ⟨rfl,hb⟩;have hF:=qh (hC.out.trans (hb.mono hC.out.size));clear hA hb;go_wp2_with fail;go_ret;exact ⟨rfl,hF.out⟩
theorem Sy{a b:Int}(h1:-1073741824≤a)(h2:a≤1073741824)(h3:0≤b)(h4:b≤1073741824):-1152921504606846976≤a*b∧a*b≤1152921504606846976:=by
 have x1:a*b≤1073741824*b:=Int.mul_le_mul_of_nonneg_right h2 h3;have x2:-1073741824*b≤a*b:=Int.mul_le_mul_of_nonneg_right h1 h3;omega
theorem Ju(n d n2 d2:Int)(h1:BL n d=true)(h2:BL n2 d2=true)(w:World):Calls Tryz.prog 110 #[.agg #[int i64 n,int i64 d],.agg #[int i64 n2,int i64 d2]] w λe w'=>e=.returned (.bool (decide (n*d2<n2*d)))∧Below w.heap.size w w':=by
 unfold BL at h1 h2;simp only [Bool.and_eq_true,AR] at h1 h2;have m1:=Sy h1.1.2.1 h1.1.2.2 (show 0≤d2 by omega) h2.1.1.2;have m2:=Sy h2.1.2.1 h2.1.2.2 (show 0≤d by omega) h1.1.1.2;have g0:=heap_alloc_new w (.cells #[int i64 n,int i64 d] 75);have b0:Below w.heap.size w (w.alloc (.cells #[int i64 n,int i64 d] 75)):=(Below.refl _ w).alloc (qn _) _;have g1:=heap_alloc_new (w.alloc (.cells #[int i64 n,int i64 d] 75)) (.cells #[int i64 n2,int i64 d2] 75);have b1:=b0.alloc b0.size (.cells #[int i64 n2,int i64 d2] 75);have hA:w.heap.size<(w.alloc (.cells #[int i64 n,int i64 d] 75)).heap.size:=by simp
 have k0:=(Below.heap_alloc _ (.cells #[int i64 n2,int i64 d2] 75) w.heap.size hA).trans g0;have hB:(w.alloc (.cells #[int i64 n,int i64 d] 75)).heap.size=w.heap.size+1:=by simp
 rw [hB] at g1;go_enter Tryz.func110,Tryz.ntmps110;go_wp2_with fail;generalize (w.alloc (.cells #[int i64 n,int i64 d] 75)).alloc (.cells #[int i64 n2,int i64 d2] 75)=w0 at *;have HB:=qh b1;have c0:w0.cell? ⟨w.heap.size,0,none⟩=some (int i64 n):=Aa k0 0 rfl;have c1:w0.cell? ⟨w.heap.size,1,none⟩=some (int i64 d):=Aa k0 1 rfl;have c2:w0.cell? ⟨w.heap.size+1,0,none⟩=some (int i64 n2):=Aa g1 0 rfl;have c3:w0.cell? ⟨w.heap.size+1,1,none⟩=some (int i64 d2):=Aa g1 1 rfl;clear b0 b1 g0 g1 k0 hA hB h1 h2;generalize n*d2=x at *;generalize n2*d=y at *;go_wp2_with fail;go_ret;exact ⟨rfl,HB.out⟩
end
section
open Go Go.RowKit
open Go Go.RowKit Go.Deep
theorem M1(n d n2 d2:Int)(h1:BL n d=true)(h2:BL n2 d2=true)(w:World):Calls Tryz.prog 97 #[.agg #[int i64 n,int i64 d],.agg #[int i64 n2,int i64 d2]] w λe w'=>e=.returned (.tuple #[int i64 (Gv (n*d2) (n2*d)),int i64 0])∧Below w.heap.size w w':=by
 obtain ⟨r,hr⟩:∃r,Gv (n*d2) (n2*d)=r:=⟨_,rfl⟩;rw [hr];have hA:Hid (r=if n*d2<n2*d then -1 else if n2*d<n*d2 then 1 else 0):=qh (by rw [← hr];rfl);clear hr;have g0:=heap_alloc_new w (.cells #[int i64 n,int i64 d] 75);have b0:Below w.heap.size w (w.alloc (.cells #[int i64 n,int i64 d] 75)):=(Below.refl _ w).alloc (qn _) _;have g1:=heap_alloc_new (w.alloc (.cells #[int i64 n,int i64 d] 75)) (.cells #[int i64 n2,int i64 d2] 75);have b1:=b0.alloc b0.size (.cells #[int i64 n2,int i64 d2] 75);have hH:w.heap.size<(w.alloc (.cells #[int i64 n,int i64 d] 75)).heap.size:=by simp
 have k0:=(Below.heap_alloc _ (.cells #[int i64 n2,int i64 d2] 75) w.heap.size hH).trans g0;have hI:(w.alloc (.cells #[int i64 n,int i64 d] 75)).heap.size=w.heap.size+1:=by simp
 rw [hI] at g1;go_enter Tryz.func97,Tryz.ntmps97;go_wp2_with fail;generalize (w.alloc (.cells #[int i64 n,int i64 d] 75)).alloc (.cells #[int i64 n2,int i64 d2] 75)=w0 at *;have hJ:w.heap.size+1<w0.heap.size:=(qs.1 g1).1
 have CC:=qh (λ(W:World) (hb:Below w0.heap.size w0 W)=>(show W.cell? ⟨w.heap.size,0,none⟩=some (int i64 n)∧W.cell? ⟨w.heap.size,1,none⟩=some (int i64 d)∧W.cell? ⟨w.heap.size+1,0,none⟩=some (int i64 n2)∧W.cell? ⟨w.heap.size+1,1,none⟩=some (int i64 d2) from
  ⟨Aa ((hb.block _ (by omega)).trans k0) 0 rfl,Aa ((hb.block _ (by omega)).trans k0) 1 rfl,Aa ((hb.block _ hJ).trans g1) 0 rfl,Aa ((hb.block _ hJ).trans g1) 1 rfl⟩))
 have HV:=qh (Nw n d n2 d2 h1 h2 w0);have hK:=qh (λW=>Ju n d n2 d2 h1 h2 W);have hL:=qh (λW=>Ju n2 d2 n d h2 h1 W);have HB:=qh b1;obtain ⟨c0,c1,c2,c3⟩:=CC.out w0 (Below.refl _ _);clear b0 b1 g0 g1 k0 hH hI h1 h2;go_wp2_with fail;refine HV.out.mono ?_;rintro e w1 ⟨rfl,hC⟩;have hD:=qh (HB.out.trans (hC.mono HB.out.size));clear c0 c1 c2 c3;obtain ⟨c0,c1,c2,c3⟩:=CC.out w1 hC;have hE:=qh hC;have HL:=qh (hK.out w1);clear HV hC HB hK;go_wp2_with fail;refine HL.out.mono ?_;rintro e w2 ⟨rfl,hF⟩;have hG:=qh (hD.out.trans (hF.mono hD.out.size));have hB:=hE.out.trans (hF.mono hE.out.size);clear c0 c1 c2 c3;obtain ⟨c0,c1,c2,c3⟩:=CC.out w2 hB;have HM:=qh (hL.out w2);clear HL hF hB hD hE hL CC;generalize hx:n*d2=x at *;generalize hy:n2*d=y at *;by_cases q1:x<y
 ·have e1:decide (x<y)=true:=decide_eq_true q1
  rw [if_pos q1] at hA;clear q1 HM;go_wp2_with fail;go_ret2;exact ⟨by rw [hA.out];rfl,hG.out⟩
 ·have e1:decide (x<y)=false:=decide_eq_false q1
  rw [if_neg q1] at hA;clear q1;go_wp2_with fail;refine HM.out.mono ?_;rintro e w3 ⟨rfl,hM⟩;have hN:=qh (hG.out.trans (hM.mono hG.out.size));clear HM hM;by_cases q2:y<x
  ·have e2:decide (y<x)=true:=decide_eq_true q2
   rw [if_pos q2] at hA;clear q2;go_wp2_with fail;go_ret2;exact ⟨by rw [hA.out];rfl,hN.out⟩
  ·have e2:decide (y<x)=false:=decide_eq_false q2
   rw [if_neg q2] at hA;clear q2;go_wp2_with fail;go_ret2;exact ⟨by rw [hA.out];rfl,hN.out⟩
end
section
open Go Go.RowKit Go.Deep
theorem NE(n lo hi:Int)(w:World):Calls Tryz.prog 30 #[int i64 n,int i64 lo,int i64 hi] w λe w'=>e=.returned (.bool (inB n lo hi))∧w'=w:=by
 go_enter Tryz.func30,Tryz.ntmps30;go_wp2
 all_goals
  go_ret;refine ⟨AT ?_,rfl⟩;unfold inB;rw [Bool.eq_iff_iff];simp;omega
theorem AG{n lo hi:Int}{v:Bool}(h:inB n lo hi=v)(w:World):Calls Tryz.prog 30 #[int i64 n,int i64 lo,int i64 hi] w λe w'=>e=.returned (.bool v)∧w=w':=by
 have:=NE n lo hi w;rw [h] at this
 exact this.mono λe w' ⟨h1,h2⟩=>⟨h1,h2.symm⟩
def Bk(mark kind side dir lev size:Int):Bool:=(DW kind&&inB mark 1 3)&&R3 kind side dir lev size
theorem Do(n:Int):inB n 0 0=(n==0):=by
 unfold inB;by_cases h:n=0
 ·subst h;rfl
 ·have:¬(0≤n∧n≤0):=by omega
  rw [Bool.eq_iff_iff];simp;omega
section
variable (mark side dir lev size:Int) (w:World)
theorem Qg:Calls Tryz.prog 75 #[int i64 mark,int i64 1,int i64 side,int i64 dir,int i64 lev,int i64 size] w λe w'=>e=.returned (.bool (Bk mark 1 side dir lev size))∧w'=w:=by
 have hr:Bk mark 1 side dir lev size=(inB mark 1 3&&inB side 1 2&&inB dir 1 8&&(lev==0)&&inB size 1 16):=by
  show ((true&&inB mark 1 3)&&(CU side dir lev size 1 2 1 8 0 0 1 16).all id)=_
  simp only [CU,List.all_cons,List.all_nil,id,Do,Bool.true_and,Bool.and_true,Bool.and_assoc]
 rw [hr];clear hr
 have hc:inB mark 1 3=false∨inB mark 1 3=true∧(inB side 1 2=false∨inB side 1 2=true∧(inB dir 1 8=false∨inB dir 1 8=true∧((lev==0)=false∨(lev==0)=true∧(inB size 1 16=false∨inB size 1 16=true)))):=by
  cases inB mark 1 3<;>cases inB side 1 2<;>cases inB dir 1 8<;>cases (lev==0)<;>cases inB size 1 16<;>simp
 rcases hc with q0|⟨q0,q1|⟨q1,q2|⟨q2,q3|⟨q3,q4|q4⟩⟩⟩⟩
 all_goals
  go_enter Tryz.func75,Tryz.ntmps75
  go_wp2_with (go_at_call 30;refine (AG (by assumption) _).mono ?_;rintro e w' ⟨rfl,rfl⟩);go_ret;exact ⟨by simp only [*];rfl,rfl⟩
theorem Qh:Calls Tryz.prog 75 #[int i64 mark,int i64 2,int i64 side,int i64 dir,int i64 lev,int i64 size] w λe w'=>e=.returned (.bool (Bk mark 2 side dir lev size))∧w'=w:=by
 have hr:Bk mark 2 side dir lev size=(inB mark 1 3&&(side==0)&&inB dir 1 8&&(lev==0)&&inB size 1 16):=by
  show ((true&&inB mark 1 3)&&(CU side dir lev size 0 0 1 8 0 0 1 16).all id)=_
  simp only [CU,List.all_cons,List.all_nil,id,Do,Bool.true_and,Bool.and_true,Bool.and_assoc]
 rw [hr];clear hr
 have hc:inB mark 1 3=false∨inB mark 1 3=true∧((side==0)=false∨(side==0)=true∧(inB dir 1 8=false∨inB dir 1 8=true∧((lev==0)=false∨(lev==0)=true∧(inB size 1 16=false∨inB size 1 16=true)))):=by
  cases inB mark 1 3<;>cases (side==0)<;>cases inB dir 1 8<;>cases (lev==0)<;>cases inB size 1 16<;>simp
 rcases hc with q0|⟨q0,q1|⟨q1,q2|⟨q2,q3|⟨q3,q4|q4⟩⟩⟩⟩
 all_goals
  go_enter Tryz.func75,Tryz.ntmps75
  go_wp2_with (go_at_call 30;refine (AG (by assumption) _).mono ?_;rintro e w' ⟨rfl,rfl⟩);go_ret;exact ⟨by simp only [*];rfl,rfl⟩
theorem Qi:Calls Tryz.prog 75 #[int i64 mark,int i64 3,int i64 side,int i64 dir,int i64 lev,int i64 size] w λe w'=>e=.returned (.bool (Bk mark 3 side dir lev size))∧w'=w:=by
 have hr:Bk mark 3 side dir lev size=(inB mark 1 3&&inB side 1 2&&inB dir 0 8&&inB lev 1 3&&(size==0)):=by
  show ((true&&inB mark 1 3)&&(CU side dir lev size 1 2 0 8 1 3 0 0).all id)=_
  simp only [CU,List.all_cons,List.all_nil,id,Do,Bool.true_and,Bool.and_true,Bool.and_assoc]
 rw [hr];clear hr
 have hc:inB mark 1 3=false∨inB mark 1 3=true∧(inB side 1 2=false∨inB side 1 2=true∧(inB dir 0 8=false∨inB dir 0 8=true∧(inB lev 1 3=false∨inB lev 1 3=true∧((size==0)=false∨(size==0)=true)))):=by
  cases inB mark 1 3<;>cases inB side 1 2<;>cases inB dir 0 8<;>cases inB lev 1 3<;>cases (size==0)<;>simp
 rcases hc with q0|⟨q0,q1|⟨q1,q2|⟨q2,q3|⟨q3,q4|q4⟩⟩⟩⟩
 all_goals
  go_enter Tryz.func75,Tryz.ntmps75
  go_wp2_with (go_at_call 30;refine (AG (by assumption) _).mono ?_;rintro e w' ⟨rfl,rfl⟩);go_ret;exact ⟨by simp only [*];rfl,rfl⟩
theorem Qj:Calls Tryz.prog 75 #[int i64 mark,int i64 4,int i64 side,int i64 dir,int i64 lev,int i64 size] w λe w'=>e=.returned (.bool (Bk mark 4 side dir lev size))∧w'=w:=by
 have hr:Bk mark 4 side dir lev size=(inB mark 1 3&&inB side 1 2&&inB dir 0 8&&inB lev 1 3&&(size==0)):=by
  show ((true&&inB mark 1 3)&&(CU side dir lev size 1 2 0 8 1 3 0 0).all id)=_
  simp only [CU,List.all_cons,List.all_nil,id,Do,Bool.true_and,Bool.and_true,Bool.and_assoc]
 rw [hr];clear hr
 have hc:inB mark 1 3=false∨inB mark 1 3=true∧(inB side 1 2=false∨inB side 1 2=true∧(inB dir 0 8=false∨inB dir 0 8=true∧(inB lev 1 3=false∨inB lev 1 3=true∧((size==0)=false∨(size==0)=true)))):=by
  cases inB mark 1 3<;>cases inB side 1 2<;>cases inB dir 0 8<;>cases inB lev 1 3<;>cases (size==0)<;>simp
 rcases hc with q0|⟨q0,q1|⟨q1,q2|⟨q2,q3|⟨q3,q4|q4⟩⟩⟩⟩
 all_goals
  go_enter Tryz.func75,Tryz.ntmps75
  go_wp2_with (go_at_call 30;refine (AG (by assumption) _).mono ?_;rintro e w' ⟨rfl,rfl⟩);go_ret;exact ⟨by simp only [*];rfl,rfl⟩
theorem Qk:Calls Tryz.prog 75 #[int i64 mark,int i64 5,int i64 side,int i64 dir,int i64 lev,int i64 size] w λe w'=>e=.returned (.bool (Bk mark 5 side dir lev size))∧w'=w:=by
 have hr:Bk mark 5 side dir lev size=(inB mark 1 3&&(side==0)&&inB dir 0 8&&inB lev 1 3&&(size==0)):=by
  show ((true&&inB mark 1 3)&&(CU side dir lev size 0 0 0 8 1 3 0 0).all id)=_
  simp only [CU,List.all_cons,List.all_nil,id,Do,Bool.true_and,Bool.and_true,Bool.and_assoc]
 rw [hr];clear hr
 have hc:inB mark 1 3=false∨inB mark 1 3=true∧((side==0)=false∨(side==0)=true∧(inB dir 0 8=false∨inB dir 0 8=true∧(inB lev 1 3=false∨inB lev 1 3=true∧((size==0)=false∨(size==0)=true)))):=by
  cases inB mark 1 3<;>cases (side==0)<;>cases inB dir 0 8<;>cases inB lev 1 3<;>cases (size==0)<;>simp
 rcases hc with q0|⟨q0,q1|⟨q1,q2|⟨q2,q3|⟨q3,q4|q4⟩⟩⟩⟩
 all_goals
  go_enter Tryz.func75,Tryz.ntmps75
  go_wp2_with (go_at_call 30;refine (AG (by assumption) _).mono ?_;rintro e w' ⟨rfl,rfl⟩);go_ret;exact ⟨by simp only [*];rfl,rfl⟩
theorem Ql:Calls Tryz.prog 75 #[int i64 mark,int i64 6,int i64 side,int i64 dir,int i64 lev,int i64 size] w λe w'=>e=.returned (.bool (Bk mark 6 side dir lev size))∧w'=w:=by
 have hr:Bk mark 6 side dir lev size=(inB mark 1 3&&(side==0)&&(dir==0)&&(lev==0)&&inB size 1 7):=by
  show ((true&&inB mark 1 3)&&(CU side dir lev size 0 0 0 0 0 0 1 7).all id)=_
  simp only [CU,List.all_cons,List.all_nil,id,Do,Bool.true_and,Bool.and_true,Bool.and_assoc]
 rw [hr];clear hr
 have hc:inB mark 1 3=false∨inB mark 1 3=true∧((side==0)=false∨(side==0)=true∧((dir==0)=false∨(dir==0)=true∧((lev==0)=false∨(lev==0)=true∧(inB size 1 7=false∨inB size 1 7=true)))):=by
  cases inB mark 1 3<;>cases (side==0)<;>cases (dir==0)<;>cases (lev==0)<;>cases inB size 1 7<;>simp
 rcases hc with q0|⟨q0,q1|⟨q1,q2|⟨q2,q3|⟨q3,q4|q4⟩⟩⟩⟩
 all_goals
  go_enter Tryz.func75,Tryz.ntmps75
  go_wp2_with (go_at_call 30;refine (AG (by assumption) _).mono ?_;rintro e w' ⟨rfl,rfl⟩);go_ret;exact ⟨by simp only [*];rfl,rfl⟩
theorem Qm:Calls Tryz.prog 75 #[int i64 mark,int i64 7,int i64 side,int i64 dir,int i64 lev,int i64 size] w λe w'=>e=.returned (.bool (Bk mark 7 side dir lev size))∧w'=w:=by
 have hr:Bk mark 7 side dir lev size=(inB mark 1 3&&(side==0)&&(dir==0)&&(lev==0)&&(size==0)):=by
  show ((true&&inB mark 1 3)&&(CU side dir lev size 0 0 0 0 0 0 0 0).all id)=_
  simp only [CU,List.all_cons,List.all_nil,id,Do,Bool.true_and,Bool.and_true,Bool.and_assoc]
 rw [hr];clear hr
 have hc:inB mark 1 3=false∨inB mark 1 3=true∧((side==0)=false∨(side==0)=true∧((dir==0)=false∨(dir==0)=true∧((lev==0)=false∨(lev==0)=true∧((size==0)=false∨(size==0)=true)))):=by
  cases inB mark 1 3<;>cases (side==0)<;>cases (dir==0)<;>cases (lev==0)<;>cases (size==0)<;>simp
 rcases hc with q0|⟨q0,q1|⟨q1,q2|⟨q2,q3|⟨q3,q4|q4⟩⟩⟩⟩
 all_goals
  go_enter Tryz.func75,Tryz.ntmps75
  go_wp2_with (go_at_call 30;refine (AG (by assumption) _).mono ?_;rintro e w' ⟨rfl,rfl⟩);go_ret;exact ⟨by simp only [*];rfl,rfl⟩
theorem Qo:Calls Tryz.prog 75 #[int i64 mark,int i64 8,int i64 side,int i64 dir,int i64 lev,int i64 size] w λe w'=>e=.returned (.bool (Bk mark 8 side dir lev size))∧w'=w:=by
 have hr:Bk mark 8 side dir lev size=(inB mark 1 3&&(side==0)&&(dir==0)&&(lev==0)&&(size==0)):=by
  show ((true&&inB mark 1 3)&&(CU side dir lev size 0 0 0 0 0 0 0 0).all id)=_
  simp only [CU,List.all_cons,List.all_nil,id,Do,Bool.true_and,Bool.and_true,Bool.and_assoc]
 rw [hr];clear hr
 have hc:inB mark 1 3=false∨inB mark 1 3=true∧((side==0)=false∨(side==0)=true∧((dir==0)=false∨(dir==0)=true∧((lev==0)=false∨(lev==0)=true∧((size==0)=false∨(size==0)=true)))):=by
  cases inB mark 1 3<;>cases (side==0)<;>cases (dir==0)<;>cases (lev==0)<;>cases (size==0)<;>simp
 rcases hc with q0|⟨q0,q1|⟨q1,q2|⟨q2,q3|⟨q3,q4|q4⟩⟩⟩⟩
 all_goals
  go_enter Tryz.func75,Tryz.ntmps75
  go_wp2_with (go_at_call 30;refine (AG (by assumption) _).mono ?_;rintro e w' ⟨rfl,rfl⟩);go_ret;exact ⟨by simp only [*];rfl,rfl⟩
theorem Qp:Calls Tryz.prog 75 #[int i64 mark,int i64 9,int i64 side,int i64 dir,int i64 lev,int i64 size] w λe w'=>e=.returned (.bool (Bk mark 9 side dir lev size))∧w'=w:=by
 have hr:Bk mark 9 side dir lev size=(inB mark 1 3&&inB side 1 2&&(dir==0)&&inB lev 1 3&&(size==0)):=by
  show ((true&&inB mark 1 3)&&(CU side dir lev size 1 2 0 0 1 3 0 0).all id)=_
  simp only [CU,List.all_cons,List.all_nil,id,Do,Bool.true_and,Bool.and_true,Bool.and_assoc]
 rw [hr];clear hr
 have hc:inB mark 1 3=false∨inB mark 1 3=true∧(inB side 1 2=false∨inB side 1 2=true∧((dir==0)=false∨(dir==0)=true∧(inB lev 1 3=false∨inB lev 1 3=true∧((size==0)=false∨(size==0)=true)))):=by
  cases inB mark 1 3<;>cases inB side 1 2<;>cases (dir==0)<;>cases inB lev 1 3<;>cases (size==0)<;>simp
 rcases hc with q0|⟨q0,q1|⟨q1,q2|⟨q2,q3|⟨q3,q4|q4⟩⟩⟩⟩
 all_goals
  go_enter Tryz.func75,Tryz.ntmps75
  go_wp2_with (go_at_call 30;refine (AG (by assumption) _).mono ?_;rintro e w' ⟨rfl,rfl⟩);go_ret;exact ⟨by simp only [*];rfl,rfl⟩
end
theorem NK(mark kind side dir lev size:Int)(w:World)(hk:¬(1≤kind∧kind≤9)):Calls Tryz.prog 75 #[int i64 mark,int i64 kind,int i64 side,int i64 dir,int i64 lev,int i64 size] w λe w'=>e=.returned (.bool (Bk mark kind side dir lev size))∧w'=w:=by
 have hr:Bk mark kind side dir lev size=false:=by
  have:DW kind=false:=by
   unfold DW suitTab;simp only [List.find?_cons,List.find?_nil]
   repeat rw [decide_eq_false (by omega)]
   rfl
  unfold Bk;rw [this];rfl
 rw [hr];clear hr;have f1:(kind==1)=false:=by simp;omega
 have f2:(kind==2)=false:=by simp;omega
 have f3:(kind==3)=false:=by simp;omega
 have f4:(kind==4)=false:=by simp;omega
 have f5:(kind==5)=false:=by simp;omega
 have f6:(kind==6)=false:=by simp;omega
 have f7:(kind==7)=false:=by simp;omega
 have f8:(kind==8)=false:=by simp;omega
 have f9:(kind==9)=false:=by simp;omega
 clear hk;have hm:inB mark 1 3=false∨inB mark 1 3=true:=by cases inB mark 1 3<;>simp
 rcases hm with q|q
 all_goals
  go_enter Tryz.func75,Tryz.ntmps75
  go_wp2_with (go_at_call 30;refine (AG (by assumption) _).mono ?_;rintro e w' ⟨rfl,rfl⟩);go_ret;exact ⟨rfl,rfl⟩
theorem M7(mark kind side dir lev size:Int)(w:World):Calls Tryz.prog 75 #[int i64 mark,int i64 kind,int i64 side,int i64 dir,int i64 lev,int i64 size] w λe w'=>e=.returned (.bool (Bk mark kind side dir lev size))∧w'=w:=by
 by_cases hk:1≤kind∧kind≤9
 ·have:kind=1∨kind=2∨kind=3∨kind=4∨kind=5∨kind=6∨kind=7∨kind=8∨kind=9:=by omega
  rcases this with rfl|rfl|rfl|rfl|rfl|rfl|rfl|rfl|rfl
  ·exact Qg mark side dir lev size w
  ·exact Qh mark side dir lev size w
  ·exact Qi mark side dir lev size w
  ·exact Qj mark side dir lev size w
  ·exact Qk mark side dir lev size w
  ·exact Ql mark side dir lev size w
  ·exact Qm mark side dir lev size w
  ·exact Qo mark side dir lev size w
  ·exact Qp mark side dir lev size w
 ·exact NK mark kind side dir lev size w hk
end
section
open Go Go.RowKit Go.Deep
theorem L6(fa fb ta tb:Int)(w:World):Calls Tryz.prog 76 #[.agg #[int i64 fa,int i64 fb],.agg #[int i64 ta,int i64 tb]] w λe w'=>e=.returned (.bool (CV fa fb ta tb))∧Below w.heap.size w w':=by
 obtain ⟨W1,hD,g1,b1,s1⟩:=Ag w #[int i64 fa,int i64 fb] 75;obtain ⟨W2,hH,g2,b2,s2⟩:=Ag W1 #[int i64 ta,int i64 tb] 75;have g1':=Ah b2 g1;have hB:=Ad b1 b2;rw [s1] at g2;obtain ⟨r,hr⟩:∃r,CV fa fb ta tb=r:=⟨_,rfl⟩;have hI:CV fa fb ta tb=(BL fa fb&&BL ta tb&&decide (fa*tb<ta*fb)&&decide (0≤fa)&&decide (ta≤tb)):=rfl;rw [hr] at hI ⊢;have HR:=qh hI;have HB:=qh hB;have hE:=qh g1';have hF:=qh g2;have hL:=qh hD;have hM:=qh hH;have hQ:=qh s1;clear hr hI hB g1' g2 g1 b1 b2 s2;go_enter Tryz.func76,Tryz.ntmps76;have c0:=Aa hE.out 0 rfl;have c1:=Aa hE.out 1 rfl;have c2:=Aa hF.out 0 rfl;have c3:=Aa hF.out 1 rfl;rw [← hH,← hD] at c0 c1 c2 c3;have s1':(w.alloc (.cells #[int i64 fa,int i64 fb] 75)).heap.size=w.heap.size+1:=by rw [hD];exact s1
 clear hD hH s1 hQ
 have CC:Hid (∀W,Below W2.heap.size W2 W→W.cell? ⟨w.heap.size,0,none⟩=some (int i64 fa)∧W.cell? ⟨w.heap.size,1,none⟩=some (int i64 fb)∧W.cell? ⟨w.heap.size+1,0,none⟩=some (int i64 ta)∧W.cell? ⟨w.heap.size+1,1,none⟩=some (int i64 tb)):=qh (λW h =>
  ⟨Aa (Ah h hE.out) 0 rfl,Aa (Ah h hE.out) 1 rfl,Aa (Ah h hF.out) 0 rfl,Aa (Ah h hF.out) 1 rfl⟩)
 go_wp2_with fail;rw [hL.out,hM.out];clear c0 c1 c2 c3 s1' hL hM;refine (Fr fa fb W2).mono ?_;rintro e w1 ⟨rfl,hJ⟩;have hN:=qh hJ;obtain ⟨c0,c1,c2,c3⟩:=CC.out _ hJ;clear hJ
 cases q1:BL fa fb with
 | false =>
  have HF:=qh (show r=false by rw [HR.out,q1];rfl);go_wp2_with fail;go_ret;exact ⟨by rw [HF.out];rfl,Ad HB.out hN.out⟩
 | true =>
 have Q1:=qh q1;clear q1;go_wp2_with fail;refine (Fr ta tb w1).mono ?_;rintro e w2 ⟨rfl,hO⟩;have hK:=qh (Ad hN.out hO);clear c0 c1 c2 c3;obtain ⟨c0,c1,c2,c3⟩:=CC.out _ hK.out;clear hO
 cases q2:BL ta tb with
 | false =>
  have HF:=qh (show r=false by rw [HR.out,q2];simp);go_wp2_with fail;go_ret;exact ⟨by rw [HF.out];rfl,Ad HB.out hK.out⟩
 | true =>
 have Q2:=qh q2;clear q2;have HC:=qh (M1 fa fb ta tb Q1.out Q2.out w2);go_wp2_with fail;refine HC.out.mono ?_;rintro e w3 ⟨rfl,hP⟩;have hA:=qh (Ad hK.out hP);clear c0 c1 c2 c3;obtain ⟨c0,c1,c2,c3⟩:=CC.out _ (by have:=hA.out;exact this)
 have hC:r=(decide (0≤fa)&&decide (Gv (fa*tb) (ta*fb)<0)&&decide (ta≤tb)):=by
  rw [HR.out,Q1.out,Q2.out,Mw];simp only [Bool.true_and];rw [Bool.and_comm (decide (fa*tb<ta*fb))]
 have hG:=qh hC;clear hP HC hC;generalize Gv (fa*tb) (ta*fb)=cm at *;by_cases k1:0≤fa
 ·by_cases k2:cm<0
  ·by_cases k3:ta≤tb
   ·have HF:=qh (show r=true by rw [hG.out,decide_eq_true k1,decide_eq_true k2,decide_eq_true k3];rfl)
    go_wp2_with fail;go_ret;exact ⟨by rw [HF.out];rfl,Ad HB.out hA.out⟩
   ·have HF:=qh (show r=false by rw [hG.out,decide_eq_false k3];simp)
    go_wp2_with fail;go_ret;refine ⟨?_,Ad HB.out hA.out⟩;rw [HF.out]
    show Ending.returned (.bool (decide (ta≤tb)))=_
    rw [decide_eq_false (by omega)]
  ·have HF:=qh (show r=false by rw [hG.out,decide_eq_false k2];simp)
   go_wp2_with fail;go_ret;exact ⟨by rw [HF.out];rfl,Ad HB.out hA.out⟩
 ·have HF:=qh (show r=false by rw [hG.out,decide_eq_false k1];simp)
  go_wp2_with fail;go_ret;exact ⟨by rw [HF.out];rfl,Ad HB.out hA.out⟩
theorem AY(b:Bool):b=false∨b=true:=by cases b<;>simp
theorem PA(a b c d e f fa fb ta tb:Int):KO a b c d e f fa fb ta tb=(Bk a b c d e f&&CV fa fb ta tb):=by
 unfold KO Bk;rw [Bool.and_assoc,Bool.and_assoc,Bool.and_assoc]
def Kf(b:Bool)(w:World)(e:Ending)(w':World):Prop:=e=.returned (.bool b)∧Below w.heap.size w w'
theorem L7{mark kind side dir lev size:Int}{v:Bool}(h:Bk mark kind side dir lev size=v)(w:World):Calls Tryz.prog 75 #[int i64 mark,int i64 kind,int i64 side,int i64 dir,int i64 lev,int i64 size] w λe w'=>e=.returned (.bool v)∧w=w':=by
 have:=M7 mark kind side dir lev size w;rw [h] at this
 exact this.mono λe w' ⟨h1,h2⟩=>⟨h1,h2.symm⟩
theorem KQ(ms:List Mov)(ma:Option Addr)(mc:Nat)(ks:List Int)(W:World)(hf:ms=[]∨ma=some ⟨blk ma,off ma,none⟩)(hl:ms.length≤maxLen)(hM:B8 W (blk ma) (off ma) ms)(hN:NsAt W (Aq (blk ma) (off ma) ms) ks) :
  Calls Tryz.prog 49 #[.slice ma ms.length mc] W (Kf (ms.all BX) W):=by
 have hP:=qh hf;have hQ:=qh hM;have hR:=qh hN;clear hf hM hN;generalize hn:ms.length=m at *;have hE:=qh hn;clear hn;unfold maxLen at hl;go_enter Tryz.func49,Tryz.ntmps49;go_wp2_with fail;go_loopw [3] (λjv wr=>∃(j:Nat) (s:List Mov) (ls:List Int),jv=int i64 j∧j+s.length=m∧Hid (ms.all BX=s.all BX)∧Hid (B8 wr (blk ma) (off ma+j*12) s)∧Hid (NsAt wr (Aq (blk ma) (off ma+j*12) s) ls)∧Hid (Below W.heap.size W wr)) (λjv _=>m+1-(intOf jv).toNat)
 case atStart=>exact ⟨0,ms,ks,rfl,by rw [hE.out];omega,qh rfl,by simpa [Hid] using hQ.out,by simpa [Hid] using hR.out,qh (Below.refl _ _)⟩
 case round =>
  obtain ⟨j,s,ls,rfl,hF,hA,hM,hL,hB⟩:=hrel
  cases s with
  | nil =>
   simp only [List.length_nil,Nat.add_zero] at hF;subst hF;have ha:=hA.out;have HA:=qh ha;clear ha hA hM hL;go_wp2_with fail;go_ret;exact ⟨by rw [HA.out];rfl,hB.out⟩
  | cons x s =>
   simp only [List.length_cons] at hF;have hj:(j:Int)<(m:Int):=by omega
   have ema:=hP.out.resolve_left (λe=>by rw [e] at hE;have:=hE.out;simp at this;omega)
   cases ls with
   | nil=>exact absurd hL.out (by simp [Aq,NsAt])
   | cons n1 ls =>
   obtain ⟨⟨f0,f1,f2,f3,f4,f5,f6,f8,f9,f10,f11⟩,hH⟩:=hM.out;obtain ⟨f7,hI⟩:=hL.out
   have hJ:Hid (B8 wr (blk ma) (off ma+(j+1)*12) s∧NsAt wr (Aq (blk ma) (off ma+(j+1)*12) s) ls):=qh (by
    rw [show off ma+(j+1)*12=off ma+j*12+12 by omega]
    exact ⟨hH,hI⟩)
   obtain ⟨W2,hV,gW2,bW2,sW2⟩:=Ag wr #[int i64 x.mark,int i64 x.kind,int i64 x.side,int i64 x.dir,int i64 x.level,int i64 x.size,sv x.wn,int i64 n1,int i64 x.fa,int i64 x.fb,int i64 x.ta,int i64 x.tb] 77;have hK:BX x=(Bk x.mark x.kind x.side x.dir x.level x.size&&CV x.fa x.fb x.ta x.tb):=PA _ _ _ _ _ _ _ _ _ _;have ha:=hA.out;rw [List.all_cons,hK] at ha;have CX:=λV=>L6 x.fa x.fb x.ta x.tb V
   obtain ⟨b1,hS⟩:∃b,Bk x.mark x.kind x.side x.dir x.level x.size=b:=⟨_,rfl⟩;obtain ⟨b2,hG⟩:∃b,CV x.fa x.fb x.ta x.tb=b:=⟨_,rfl⟩;rw [hS,hG] at ha;simp only [hG] at CX;have HA:=qh ha;have hT:=qh CX;have hO:=qh bW2;have z0:W2.cell? ⟨wr.heap.size,0,none⟩=some (int i64 x.mark):=Aa gW2 0 rfl;have z1:W2.cell? ⟨wr.heap.size,1,none⟩=some (int i64 x.kind):=Aa gW2 1 rfl;have z2:W2.cell? ⟨wr.heap.size,2,none⟩=some (int i64 x.side):=Aa gW2 2 rfl;have z3:W2.cell? ⟨wr.heap.size,3,none⟩=some (int i64 x.dir):=Aa gW2 3 rfl;have z4:W2.cell? ⟨wr.heap.size,4,none⟩=some (int i64 x.level):=Aa gW2 4 rfl;have z5:W2.cell? ⟨wr.heap.size,5,none⟩=some (int i64 x.size):=Aa gW2 5 rfl;have z8:W2.cell? ⟨wr.heap.size,8,none⟩=some (int i64 x.fa):=Aa gW2 8 rfl;have z9:W2.cell? ⟨wr.heap.size,9,none⟩=some (int i64 x.fb):=Aa gW2 9 rfl;have za:W2.cell? ⟨wr.heap.size,10,none⟩=some (int i64 x.ta):=Aa gW2 10 rfl;have zb:W2.cell? ⟨wr.heap.size,11,none⟩=some (int i64 x.tb):=Aa gW2 11 rfl;clear hM hL hH hI CX hG hK ha hA bW2 sW2 gW2;generalize x.mark=x0 at *;generalize x.kind=x1 at *;generalize x.side=x2 at *;generalize x.dir=x3 at *;generalize x.level=x4 at *;generalize x.size=x5 at *;generalize x.wn=x6 at *;generalize x.fa=x8 at *;generalize x.fb=x9 at *;generalize x.ta=x10 at *;generalize x.tb=x11 at *;generalize hC:blk ma=b3 at *;generalize hU:off ma=o3 at *;subst ema;clear hC hU;rcases AY b1 with rfl|rfl
   ·have HF:=qh (show ms.all BX=false by rw [HA.out];rfl)
    go_wp2_with (go_at_call 75;refine (L7 (by assumption) _).mono ?_;rintro e w' ⟨rfl,rfl⟩);go_ret;exact ⟨by rw [HF.out];rfl,Ad hB.out hO.out⟩
   ·go_wp2_with (go_at_call 75;refine (L7 (by assumption) _).mono ?_;rintro e w' ⟨rfl,rfl⟩)
    refine (hT.out _).mono ?_;rintro e w3 ⟨rfl,hC⟩;have hD:=qh (Ad hO.out hC);clear hC z0 z1 z2 z3 z4 z5 z8 z9 za zb f0 f1 f2 f3 f4 f5 f6 f7 f8 f9 f10 f11;rcases AY b2 with rfl|rfl
    ·have HF:=qh (show ms.all BX=false by rw [HA.out];rfl)
     go_wp2_with fail;go_ret;exact ⟨by rw [HF.out];rfl,Ad hB.out hD.out⟩
    ·have HC:=qh (show ms.all BX=s.all BX by rw [HA.out];rfl)
     go_wp2_with fail;go_roundw
     case rel=>exact ⟨j+1,s,ls,by go_num,by omega,HC,qh (C6 hJ.out.1 hD.out),qh (hJ.out.2.below hD.out),qh (Ad hB.out hD.out)⟩
     case measure=>simp [intOf];omega
theorem B5{W:World}{B o:Nat}{cs:Array Value}{t:TypeId}(h:W.heap[B]?=some (.cells cs t (0,0)))(a b:Value):∃W',W.setCells B o [a,b]=W'∧W'.heap[B]?=some (.cells ((cs.setIfInBounds o a).setIfInBounds (o+1) b) t (0,0))∧ButOne B W W':=by
 refine ⟨_,rfl,?_,?_⟩
 ·simp only [World.setCells,World.setCell,Array.getElem?_modify,h,if_true,Option.map_some];rfl
 ·simp only [World.setCells]
  exact (ButOne.setCell (p:=⟨B,o,none⟩) _).trans (ButOne.setCell (p:=⟨B,o+1,none⟩) _)
theorem Dy{w w':World}{B e s n:Nat}{v:Value}{xs:List Value}(h:w.ownsRow B e s v n xs)(hb:Below w.heap.size w w'):w'.ownsRow B e s v n xs :=
 h.kept (row:=none) ⟨hb.os,hb.tape,hb.output,hb.size,λk hk _=>hb.block k hk⟩ (by cases hv:v.ownBlock<;>simp)
theorem CO{W:World}{B o n:Nat}{cs:Array Value}{t:TypeId}(h:W.heap[B]?=some (.cells cs t (0,0)))(hn:o+n≤cs.size):W.there B o n:=λj hj =>
 ⟨by rw [Aa h (o+j) (Array.getElem?_eq_getElem (by omega))];rfl,(show FreeB W B from ⟨_,_,h⟩).free _⟩
theorem LS(W:World)(cs:Array Value)(h1:cs.all (·.oneCell')=true):∃W',W.alloc (.cells cs 77)=W'∧Below W.heap.size W W'∧W'.heap.size=W.heap.size+1∧((∀ad,(some ⟨W.heap.size,0,none⟩:Option Addr)=some ad→∀j u,cs.toList[j]?=some u→W'.cell? (ad.add j)=some u)∧∀u∈cs.toList,u.oneCell'=true):=by
 refine ⟨_,rfl,(Below.refl _ _).alloc (qn _) _,by simp,λad ha j u hj=>?_,λu hu=>Array.all_eq_true'.1 h1 u (Array.mem_toList_iff.1 hu)⟩;cases ha;rw [AM];exact Aa (heap_alloc_new _ _) _ (by rw [← Array.getElem?_toList];simpa using hj)
theorem LR(xs:List Nm)(v:Value)(ms:List Mov)(ns:List Int)(b o c n9:Nat)(w:World)(hr:StrRow w v xs)(hx:xs.length≤100000)(hl:ms.length=n9)(h0:n9≤100000)
  (hS:MvS xs ms ns w b o 0 [] ms [] ns (.slice none 0 0) w):Calls Tryz.prog 102 #[.slice (some ⟨b,o,none⟩) n9 c,v] w (MovP xs ms ns w):=by
 obtain ⟨i0,he,hw,hy,hz⟩:=info_parts Pn;have I85:=qh (And.intro he (And.intro hw (And.intro hy hz)));have HS:=qh hS;have HR:=qh hr;have HL:=qh hl;clear he hw hy hz hS hr hl;go_enter Tryz.func102,Tryz.ntmps102;go_wp2_with fail;go_loopw [6,7] (λov iv wr=>∃(i:Nat) (A R:List Mov) (n1 n2:List Int),iv=int i64 i∧i+R.length=n9∧Hid (MvS xs ms ns w b o i A R n1 n2 ov wr)) (λ_ iv _=>n9+1-(intOf iv).toNat)
 case atStart=>exact ⟨0,[],ms,[],ns,rfl,by rw [HL.out];omega,HS⟩
 case round =>
  obtain ⟨i,A,R,n1,n2,rfl,hp,hS⟩:=hrel
  cases R with
  | nil =>
   simp only [List.length_nil,Nat.add_zero] at hp;subst hp;go_wp2_with fail;refine bodyPost_ret (v:=.tuple #[u6,.bool true]) ?_ rfl ?_
   ·simp [results,Tryz.results102,go_sem]
   ·exact PF hS.out
  | cons m R =>
   simp only [List.length_cons] at hp;have hi:(i:Int)<(n9:Int):=by omega
   cases n2 with
   | nil=>exact absurd hS.out.nsR (by simp [Aq,NsAt])
   | cons n n2 =>
   have h:=hS.out;have hH:=h.below;obtain ⟨⟨f0,f1,f2,f3,f4,f5,f6,f8,f9,f10,f11⟩,_⟩:=h.atR;have f7:w.cell? ⟨b,o+i*12+7,none⟩=some (int i64 n):=h.nsR.1;have c0:=Ac hH f0;have c1:=Ac hH f1;have c2:=Ac hH f2;have c3:=Ac hH f3;have c4:=Ac hH f4;have c5:=Ac hH f5;have c6:=Ac hH f6;have c7:=Ac hH f7;have c8:=Ac hH f8;have c9:=Ac hH f9;have ca:=Ac hH f10;have cb:=Ac hH f11;clear f0 f1 f2 f3 f4 f5 f6 f7 f8 f9 f10 f11;have hf:=h.own;have hq:=hH.size
   cases m with
   | mk mk kd sd dr lv sz wn fa fb ta tb =>
   simp only at c0 c1 c2 c3 c4 c5 c6 c7 c8 c9 ca cb;obtain ⟨fi,hs⟩:∃fi,ptN xs (Cw kd) wn n=fi:=⟨_,rfl⟩;obtain ⟨ok,ht⟩:∃ok,ptB xs (Cw kd) wn n=ok:=⟨_,rfl⟩;have hK:=λv' W' h1 h2 h3 h4=>Rl (v':=v') (W':=W') h h1 h2 h3 h4
   have hc:=λW' h1 h2=>Ti (W':=W') h h1 h2
   simp only [hs,ht] at hK hc;obtain ⟨W2,h7,gW2,bW2,sW2⟩:=Ag wr #[int i64 mk,int i64 kd,int i64 sd,int i64 dr,int i64 lv,int i64 sz,sv wn,int i64 n,int i64 fa,int i64 fb,int i64 ta,int i64 tb] 77;have hV:=qh gW2;have hW:=qh bW2;have h8:Hid (wr.heap.size<W2.heap.size):=qh (by omega);have z1:W2.cell? ⟨wr.heap.size,1,none⟩=some (int i64 kd):=Aa gW2 1 rfl;have z6:W2.cell? ⟨wr.heap.size,6,none⟩=some (sv wn):=Aa gW2 6 rfl;have z7:W2.cell? ⟨wr.heap.size,7,none⟩=some (int i64 n):=Aa gW2 7 rfl;have hL:=qh hK;have hM:=qh hc;have hJ:=qh hf;have hX:=qh hH;have hI:=qh hq;have CP:=ED xs v (Cw kd) wn n W2 (HR.out.below (Ad hH bW2)) hx;unfold JI at CP;rw [hs,ht] at CP;clear h hH hf hq hK hc gW2 bW2 sW2 hs ht hS;by_cases ho:kd=7
   ·subst ho
    have hU:=qh (show Calls Tryz.prog 84 #[.agg #[sv wn,int i64 n],.bool true,v] W2 _ from CP);clear CP;rcases AY ok with rfl|rfl
    ·skip
     go_wp2_with (go_at_call 84;refine hU.out.mono ?_;rintro e w5 ⟨rfl,hB⟩;obtain ⟨W6,hd,g6,bW6,sW6⟩:=Ag w5 #[sv wn,int i64 fi] 44;have hC:=Ah (Ad hB bW6) hV.out;have hE:=qh hC;have hD:=qh (Ad hW.out (Ad hB bW6));have y1:W6.cell? ⟨wr.heap.size,1,none⟩=some (int i64 7):=Aa hC 1 rfl;have y8:W6.cell? ⟨w5.heap.size,0,none⟩=some (sv wn):=Aa g6 0 rfl;have y9:W6.cell? ⟨w5.heap.size,1,none⟩=some (int i64 fi):=Aa g6 1 rfl;clear g6 bW6 sW6 hC hB z1 z6 z7 c0 c1 c2 c3 c4 c5 c6 c7 c8 c9 ca cb);refine bodyPost_ret (v:=.tuple #[.slice none 0 0,.bool false]) ?_ rfl ?_
     ·simp [results,Tryz.results102,go_sem]
     ·exact hM.out _ (by simp) (hX.out.trans (hD.out.mono hI.out))
    go_wp2_with (first
     | (go_at_call 84;refine hU.out.mono ?_;rintro e w5 ⟨rfl,hB⟩;obtain ⟨W6,hd,g6,bW6,sW6⟩:=Ag w5 #[sv wn,int i64 fi] 44;have hC:=Ah (Ad hB bW6) hV.out;have hE:=qh hC;have hD:=qh (Ad hW.out (Ad hB bW6));have y1:W6.cell? ⟨wr.heap.size,1,none⟩=some (int i64 7):=Aa hC 1 rfl;have y8:W6.cell? ⟨w5.heap.size,0,none⟩=some (sv wn):=Aa g6 0 rfl;have y9:W6.cell? ⟨w5.heap.size,1,none⟩=some (int i64 fi):=Aa g6 1 rfl;clear g6 bW6 sW6 hC hB z1 z6 z7 c0 c1 c2 c3 c4 c5 c6 c7 c8 c9 ca cb;obtain ⟨W7,hY,gX7,b67⟩:=B5 (o:=6) hE.out (sv wn) (int i64 fi);have b27:Below wr.heap.size wr W7:=hD.out.trans (b67.below (by have:=hD.out.size;have:=(qs.1 hE.out).1;omega) (by have:=hD.out.size;have:=(qs.1 hE.out).1;omega));obtain ⟨W8,hZ,b78,s8,ha⟩:=LS W7 #[int i64 mk,int i64 7,int i64 sd,int i64 dr,int i64 lv,int i64 sz,sv wn,int i64 fi,int i64 fa,int i64 fb,int i64 ta,int i64 tb] (all_oneCell_toArray (FT ⟨mk,7,sd,dr,lv,sz,wn,fa,fb,ta,tb⟩ fi));have hg:=qh hY;have hN:=qh gX7;have hh:=qh b27;have hj:=qh hZ;have hm:=qh s8;have hb:=qh ha;have hO:=qh (b27.trans (b78.mono b27.size));clear hY gX7 b67 b27 hZ b78 s8 ha)
     | (refine wpList_store_mid rfl 44 _ _ rfl wr.heap.size 6 #[sv wn,int i64 fi] rfl rfl (CO hE.out (by simp)) (by kernel_rfl) (by simp [Value.oneCell']) ?_;rw [hg.out];clear y1 y8 y9;have hA:=hN.out;have x0:=Aa hA 0 rfl;have x1:=Aa hA 1 rfl;have x2:=Aa hA 2 rfl;have x3:=Aa hA 3 rfl;have x4:=Aa hA 4 rfl;have x5:=Aa hA 5 rfl;have x6:=Aa hA 6 rfl;have x7:=Aa hA 7 rfl;have x8:=Aa hA 8 rfl;have x9:=Aa hA 9 rfl;have xa:=Aa hA 10 rfl;have xb:=Aa hA 11 rfl;clear hA)
     | (at_builtin;rw [hj.out];refine AL rfl _ _ 46 rfl w.heap.size 77 i0 _ 12 104 Tryz.underlying46 I85.out.1 I85.out.2.1 I85.out.2.2.1 I85.out.2.2.2 rfl (by decide) _ i (C5 A n1) rfl (Dy hJ.out hO.out) (some ⟨W7.heap.size,0,none⟩) 1 1 [int i64 mk,int i64 7,int i64 sd,int i64 dr,int i64 lv,int i64 sz,sv wn,int i64 fi,int i64 fa,int i64 fb,int i64 ta,int i64 tb] rfl rfl (λe=>by cases e) hb.out.1 hb.out.2 (by unfold maxLen;omega) (by omega) (by have:=hm.out;have:=hh.out.size;have:=hI.out;omega) ?_;intro v9 w10 hF hG hn;have hP:=qh hF;have hQ:=qh hG;clear hF hG hn))
    have hR:=qh ((hX.out.trans (hO.out.mono hI.out)).grown hQ.out (by have:=hO.out.size;have:=hI.out;omega) λk hk=>(hJ.out.lt k hk).1);have hT:=qh (hL.out _ _ (by trivial) (by simp [Br]) hP.out hR.out);go_roundw
    case rel=>exact ⟨i+1,_,R,_,n2,by go_num,by omega,hT⟩
    case measure=>simp [intOf];omega
   by_cases hv:kd=8
   ·subst hv
    clear ho;have hU:=qh (show Calls Tryz.prog 84 #[.agg #[sv wn,int i64 n],.bool true,v] W2 _ from CP);clear CP;rcases AY ok with rfl|rfl
    ·skip
     go_wp2_with (go_at_call 84;refine hU.out.mono ?_;rintro e w5 ⟨rfl,hB⟩;obtain ⟨W6,hd,g6,bW6,sW6⟩:=Ag w5 #[sv wn,int i64 fi] 44;have hC:=Ah (Ad hB bW6) hV.out;have hE:=qh hC;have hD:=qh (Ad hW.out (Ad hB bW6));have y1:W6.cell? ⟨wr.heap.size,1,none⟩=some (int i64 8):=Aa hC 1 rfl;have y8:W6.cell? ⟨w5.heap.size,0,none⟩=some (sv wn):=Aa g6 0 rfl;have y9:W6.cell? ⟨w5.heap.size,1,none⟩=some (int i64 fi):=Aa g6 1 rfl;clear g6 bW6 sW6 hC hB z1 z6 z7 c0 c1 c2 c3 c4 c5 c6 c7 c8 c9 ca cb);refine bodyPost_ret (v:=.tuple #[.slice none 0 0,.bool false]) ?_ rfl ?_
     ·simp [results,Tryz.results102,go_sem]
     ·exact hM.out _ (by simp) (hX.out.trans (hD.out.mono hI.out))
    go_wp2_with (first
     | (go_at_call 84;refine hU.out.mono ?_;rintro e w5 ⟨rfl,hB⟩;obtain ⟨W6,hd,g6,bW6,sW6⟩:=Ag w5 #[sv wn,int i64 fi] 44;have hC:=Ah (Ad hB bW6) hV.out;have hE:=qh hC;have hD:=qh (Ad hW.out (Ad hB bW6));have y1:W6.cell? ⟨wr.heap.size,1,none⟩=some (int i64 8):=Aa hC 1 rfl;have y8:W6.cell? ⟨w5.heap.size,0,none⟩=some (sv wn):=Aa g6 0 rfl;have y9:W6.cell? ⟨w5.heap.size,1,none⟩=some (int i64 fi):=Aa g6 1 rfl;clear g6 bW6 sW6 hC hB z1 z6 z7 c0 c1 c2 c3 c4 c5 c6 c7 c8 c9 ca cb;obtain ⟨W7,hY,gX7,b67⟩:=B5 (o:=6) hE.out (sv wn) (int i64 fi);have b27:Below wr.heap.size wr W7:=hD.out.trans (b67.below (by have:=hD.out.size;have:=(qs.1 hE.out).1;omega) (by have:=hD.out.size;have:=(qs.1 hE.out).1;omega));obtain ⟨W8,hZ,b78,s8,ha⟩:=LS W7 #[int i64 mk,int i64 8,int i64 sd,int i64 dr,int i64 lv,int i64 sz,sv wn,int i64 fi,int i64 fa,int i64 fb,int i64 ta,int i64 tb] (all_oneCell_toArray (FT ⟨mk,8,sd,dr,lv,sz,wn,fa,fb,ta,tb⟩ fi));have hg:=qh hY;have hN:=qh gX7;have hh:=qh b27;have hj:=qh hZ;have hm:=qh s8;have hb:=qh ha;have hO:=qh (b27.trans (b78.mono b27.size));clear hY gX7 b67 b27 hZ b78 s8 ha)
     | (refine wpList_store_mid rfl 44 _ _ rfl wr.heap.size 6 #[sv wn,int i64 fi] rfl rfl (CO hE.out (by simp)) (by kernel_rfl) (by simp [Value.oneCell']) ?_;rw [hg.out];clear y1 y8 y9;have hA:=hN.out;have x0:=Aa hA 0 rfl;have x1:=Aa hA 1 rfl;have x2:=Aa hA 2 rfl;have x3:=Aa hA 3 rfl;have x4:=Aa hA 4 rfl;have x5:=Aa hA 5 rfl;have x6:=Aa hA 6 rfl;have x7:=Aa hA 7 rfl;have x8:=Aa hA 8 rfl;have x9:=Aa hA 9 rfl;have xa:=Aa hA 10 rfl;have xb:=Aa hA 11 rfl;clear hA)
     | (at_builtin;rw [hj.out];refine AL rfl _ _ 46 rfl w.heap.size 77 i0 _ 12 104 Tryz.underlying46 I85.out.1 I85.out.2.1 I85.out.2.2.1 I85.out.2.2.2 rfl (by decide) _ i (C5 A n1) rfl (Dy hJ.out hO.out) (some ⟨W7.heap.size,0,none⟩) 1 1 [int i64 mk,int i64 8,int i64 sd,int i64 dr,int i64 lv,int i64 sz,sv wn,int i64 fi,int i64 fa,int i64 fb,int i64 ta,int i64 tb] rfl rfl (λe=>by cases e) hb.out.1 hb.out.2 (by unfold maxLen;omega) (by omega) (by have:=hm.out;have:=hh.out.size;have:=hI.out;omega) ?_;intro v9 w10 hF hG hn;have hP:=qh hF;have hQ:=qh hG;clear hF hG hn))
    have hR:=qh ((hX.out.trans (hO.out.mono hI.out)).grown hQ.out (by have:=hO.out.size;have:=hI.out;omega) λk hk=>(hJ.out.lt k hk).1);have hT:=qh (hL.out _ _ (by trivial) (by simp [Br]) hP.out hR.out);go_roundw
    case rel=>exact ⟨i+1,_,R,_,n2,by go_num,by omega,hT⟩
    case measure=>simp [intOf];omega
   have hu:Cw kd=false:=by unfold Cw;rw [decide_eq_false ho,decide_eq_false hv];rfl
   rw [hu] at CP;have hU:=qh CP;clear CP hu;have h5:(kd==7)=false:=by simpa using ho
   have h6:(kd==8)=false:=by simpa using hv
   rcases AY ok with rfl|rfl
   ·skip
    go_wp2_with (go_at_call 84;refine hU.out.mono ?_;rintro e w5 ⟨rfl,hB⟩;obtain ⟨W6,hd,g6,bW6,sW6⟩:=Ag w5 #[sv wn,int i64 fi] 44;have hC:=Ah (Ad hB bW6) hV.out;have hE:=qh hC;have hD:=qh (Ad hW.out (Ad hB bW6));have y1:W6.cell? ⟨wr.heap.size,1,none⟩=some (int i64 kd):=Aa hC 1 rfl;have y8:W6.cell? ⟨w5.heap.size,0,none⟩=some (sv wn):=Aa g6 0 rfl;have y9:W6.cell? ⟨w5.heap.size,1,none⟩=some (int i64 fi):=Aa g6 1 rfl;clear g6 bW6 sW6 hC hB z1 z6 z7 c0 c1 c2 c3 c4 c5 c6 c7 c8 c9 ca cb);refine bodyPost_ret (v:=.tuple #[.slice none 0 0,.bool false]) ?_ rfl ?_
    ·simp [results,Tryz.results102,go_sem]
    ·exact hM.out _ (by simp) (hX.out.trans (hD.out.mono hI.out))
   by_cases hq:kd<1
   ·skip
    go_wp2_with (go_at_call 84;refine hU.out.mono ?_;rintro e w5 ⟨rfl,hB⟩;obtain ⟨W6,hd,g6,bW6,sW6⟩:=Ag w5 #[sv wn,int i64 fi] 44;have hC:=Ah (Ad hB bW6) hV.out;have hE:=qh hC;have hD:=qh (Ad hW.out (Ad hB bW6));have y1:W6.cell? ⟨wr.heap.size,1,none⟩=some (int i64 kd):=Aa hC 1 rfl;have y8:W6.cell? ⟨w5.heap.size,0,none⟩=some (sv wn):=Aa g6 0 rfl;have y9:W6.cell? ⟨w5.heap.size,1,none⟩=some (int i64 fi):=Aa g6 1 rfl;clear g6 bW6 sW6 hC hB z1 z6 z7 c0 c1 c2 c3 c4 c5 c6 c7 c8 c9 ca cb);refine bodyPost_ret (v:=.tuple #[.slice none 0 0,.bool false]) ?_ rfl ?_
    ·simp [results,Tryz.results102,go_sem]
    ·exact hM.out _ (by intro h;have:=h.2;unfold Br at this;simp at this;omega) (hX.out.trans (hD.out.mono hI.out))
   by_cases h9:9<kd
   ·skip
    go_wp2_with (go_at_call 84;refine hU.out.mono ?_;rintro e w5 ⟨rfl,hB⟩;obtain ⟨W6,hd,g6,bW6,sW6⟩:=Ag w5 #[sv wn,int i64 fi] 44;have hC:=Ah (Ad hB bW6) hV.out;have hE:=qh hC;have hD:=qh (Ad hW.out (Ad hB bW6));have y1:W6.cell? ⟨wr.heap.size,1,none⟩=some (int i64 kd):=Aa hC 1 rfl;have y8:W6.cell? ⟨w5.heap.size,0,none⟩=some (sv wn):=Aa g6 0 rfl;have y9:W6.cell? ⟨w5.heap.size,1,none⟩=some (int i64 fi):=Aa g6 1 rfl;clear g6 bW6 sW6 hC hB z1 z6 z7 c0 c1 c2 c3 c4 c5 c6 c7 c8 c9 ca cb);refine bodyPost_ret (v:=.tuple #[.slice none 0 0,.bool false]) ?_ rfl ?_
    ·simp [results,Tryz.results102,go_sem]
    ·exact hM.out _ (by intro h;have:=h.2;unfold Br at this;simp at this;omega) (hX.out.trans (hD.out.mono hI.out))
   go_wp2_with (first
    | (go_at_call 84;refine hU.out.mono ?_;rintro e w5 ⟨rfl,hB⟩;obtain ⟨W6,hd,g6,bW6,sW6⟩:=Ag w5 #[sv wn,int i64 fi] 44;have hC:=Ah (Ad hB bW6) hV.out;have hE:=qh hC;have hD:=qh (Ad hW.out (Ad hB bW6));have y1:W6.cell? ⟨wr.heap.size,1,none⟩=some (int i64 kd):=Aa hC 1 rfl;have y8:W6.cell? ⟨w5.heap.size,0,none⟩=some (sv wn):=Aa g6 0 rfl;have y9:W6.cell? ⟨w5.heap.size,1,none⟩=some (int i64 fi):=Aa g6 1 rfl;clear g6 bW6 sW6 hC hB z1 z6 z7 c0 c1 c2 c3 c4 c5 c6 c7 c8 c9 ca cb;obtain ⟨W7,hY,gX7,b67⟩:=B5 (o:=6) hE.out (sv wn) (int i64 fi);have b27:Below wr.heap.size wr W7:=hD.out.trans (b67.below (by have:=hD.out.size;have:=(qs.1 hE.out).1;omega) (by have:=hD.out.size;have:=(qs.1 hE.out).1;omega));obtain ⟨W8,hZ,b78,s8,ha⟩:=LS W7 #[int i64 mk,int i64 kd,int i64 sd,int i64 dr,int i64 lv,int i64 sz,sv wn,int i64 fi,int i64 fa,int i64 fb,int i64 ta,int i64 tb] (all_oneCell_toArray (FT ⟨mk,kd,sd,dr,lv,sz,wn,fa,fb,ta,tb⟩ fi));have hg:=qh hY;have hN:=qh gX7;have hh:=qh b27;have hj:=qh hZ;have hm:=qh s8;have hb:=qh ha;have hO:=qh (b27.trans (b78.mono b27.size));clear hY gX7 b67 b27 hZ b78 s8 ha)
    | (refine wpList_store_mid rfl 44 _ _ rfl wr.heap.size 6 #[sv wn,int i64 fi] rfl rfl (CO hE.out (by simp)) (by kernel_rfl) (by simp [Value.oneCell']) ?_;rw [hg.out];clear y1 y8 y9;have hA:=hN.out;have x0:=Aa hA 0 rfl;have x1:=Aa hA 1 rfl;have x2:=Aa hA 2 rfl;have x3:=Aa hA 3 rfl;have x4:=Aa hA 4 rfl;have x5:=Aa hA 5 rfl;have x6:=Aa hA 6 rfl;have x7:=Aa hA 7 rfl;have x8:=Aa hA 8 rfl;have x9:=Aa hA 9 rfl;have xa:=Aa hA 10 rfl;have xb:=Aa hA 11 rfl;clear hA)
    | (at_builtin;rw [hj.out];refine AL rfl _ _ 46 rfl w.heap.size 77 i0 _ 12 104 Tryz.underlying46 I85.out.1 I85.out.2.1 I85.out.2.2.1 I85.out.2.2.2 rfl (by decide) _ i (C5 A n1) rfl (Dy hJ.out hO.out) (some ⟨W7.heap.size,0,none⟩) 1 1 [int i64 mk,int i64 kd,int i64 sd,int i64 dr,int i64 lv,int i64 sz,sv wn,int i64 fi,int i64 fa,int i64 fb,int i64 ta,int i64 tb] rfl rfl (λe=>by cases e) hb.out.1 hb.out.2 (by unfold maxLen;omega) (by omega) (by have:=hm.out;have:=hh.out.size;have:=hI.out;omega) ?_;intro v9 w10 hF hG hn;have hP:=qh hF;have hQ:=qh hG;clear hF hG hn))
   have hR:=qh ((hX.out.trans (hO.out.mono hI.out)).grown hQ.out (by have:=hO.out.size;have:=hI.out;omega) λk hk=>(hJ.out.lt k hk).1);have hT:=qh (hL.out _ _ (by trivial) (by unfold Br;simp;omega) hP.out hR.out);go_roundw
   case rel=>exact ⟨i+1,_,R,_,n2,by go_num,by omega,hT⟩
   case measure=>simp [intOf];omega
theorem Nq(xs:List Nm)(v:Value)(ms:List Mov)(ns:List Int)(ma:Option Addr)(mc:Nat)(w:World)(hr:StrRow w v xs)(hx:xs.length≤100000)(hl:ms.length≤100000)(hf:ms=[]∨ma=some ⟨blk ma,off ma,none⟩)
  (hA:B8 w (blk ma) (off ma) ms) (hN:NsAt w (Aq (blk ma) (off ma) ms) ns):Calls Tryz.prog 102 #[.slice ma ms.length mc,v] w (MovP xs ms ns w):=by
 by_cases h0:ms=[]
 ·subst h0
  have hS:=KR xs [] ns w (blk ma) (off ma) hA hN;have HE:=qh (PF hS);clear hS hA hN hf hr;go_enter Tryz.func102,Tryz.ntmps102;go_wp2_with fail;go_loopw [6,7] (λov iv wr=>iv=int i64 0∧ov=.slice none 0 0∧wr=w) (λ_ _ _=>0)
  case atStart=>exact ⟨rfl,rfl,rfl⟩
  case round =>
   obtain ⟨rfl,rfl,rfl⟩:=hrel;go_wp2_with fail;refine bodyPost_ret (v:=.tuple #[.slice none 0 0,.bool true]) ?_ rfl ?_
   ·simp [results,Tryz.results102,go_sem]
   ·exact HE.out
 ·have e:=hf.resolve_left h0
  rw [e];exact LR xs v ms ns (blk ma) (off ma) mc ms.length w hr hx rfl hl (KR xs ms ns w (blk ma) (off ma) hA hN)
end
end Go.Proofs.YtpnbpepkoekkoaaGreat
