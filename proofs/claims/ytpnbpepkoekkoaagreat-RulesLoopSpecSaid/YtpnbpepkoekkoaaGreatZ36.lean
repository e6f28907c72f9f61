/- Contracts and plain laws on the way to the statement: part 36. -/
import Derived.Test.YtpnbpepkoekkoaaGreatZ35
import Derived.Deep.QuietTactic
import Derived.BigQuiet
import Derived.OrdersHeld
import Derived.Deep.RegionHeld
import Derived.Test.YtpnbpepkoekkoaaGreatZ3
set_option autoImplicit true
set_option relaxedAutoImplicit true
set_option linter.unusedVariables false
set_option linter.unusedSimpArgs false
set_option maxRecDepth 100000
set_option maxHeartbeats 16000000
namespace Go.Proofs.YtpnbpepkoekkoaaGreat
open Go.Value (int)
open Go.IntKind (i64)
section
open Go Go.RowKit
open Go Go.RowKit Go.Deep
def MB(ts:List Tmp):Bool:=match ts with
 | []=>false
 | t::_=>decide (t.bar=0)
theorem KE{ts:List Tmp}{t:Tmp}(h:ts[0]?=some t):MB ts=decide (t.bar=0):=by
 cases ts with
 | nil=>simp at h
 | cons a r=>simp at h;subst h;rfl
def FA(bars:Int)(ts:List Tmp):Bool:=MB ts&&Bn bars (-1) ts&&C0 ts bars.toNat
theorem Mm(bars last:Int)(t:Tmp)(r:List Tmp):Bn bars last (t::r)=((inB t.bar (last+1) (bars-1)&&inB t.ticks (-65536) 65536&&inB t.step (-65536) 65536)&&Bn bars t.bar r):=rfl
theorem L8(bars:Int)(H6:1≤bars)(H7:bars≤4096)(vP vS:Value)(ts:List Tmp)(aT:Option Addr)(nT cT:Nat)(w:World)(hn:ts.length=nT)(H8:nT≤4096)(hX:IsRow DP 3 w (.slice aT nT cT) ts) :
  Calls Tryz.prog 46 #[.agg #[int i64 bars,.slice aT nT cT,vP,vS]] w λe w'=>e=.returned (.bool (FA bars ts))∧Below w.heap.size w w':=by
 obtain ⟨r,hr⟩:∃r,FA bars ts=r:=⟨_,rfl⟩;rw [hr];have HR:=qh hr;clear hr;have HC:=ClkBox.make w bars (.slice aT nT cT) vP vS;have HW:Below w.heap.size w (w.alloc (.cells #[int i64 bars,.slice aT nT cT,vP,vS] 63)):=(Below.refl _ w).alloc (qn _) _;have HD:w.heap.size<(w.alloc (.cells #[int i64 bars,.slice aT nT cT,vP,vS] 63)).heap.size:=by simp
 have HN:=qh hn;have HX:=qh hX;have hR:=qh HW;clear hn hX HW;by_cases HY:0<nT
 case neg =>
  have he:ts=[]:=List.length_eq_zero_iff.1 (by rw [HN.out];omega);have hz:nT=0:=by omega
  subst hz;have HF:Hid (r=false):=qh (by rw [← HR.out,he];rfl);clear he HY;go_enter Tryz.func46,Tryz.ntmps46;go_wp2_with fail;generalize w.alloc (.cells #[int i64 bars,.slice aT 0 cT,vP,vS] 63)=w0 at *
  try go_wp2_with fail
  go_ret;exact ⟨by rw [HF.out];rfl,hR.out⟩
 obtain ⟨t0,h8⟩:∃t,ts[0]?=some t:=⟨_,qg (by rw [HN.out];exact HY)⟩;obtain ⟨b,o,Hr,Ha,hU⟩:=HX.out.block h8;subst Hr;have hc:=qh Ha;clear Ha;have Hs:(0:Int)<(nT:Int):=by omega
 have Ht:((nT:Int)==0)=false:=by simp;omega
 have p0:(w.alloc (.cells #[int i64 bars,.slice (some ⟨b,o,none⟩) nT cT,vP,vS] 63)).cell? ⟨b,o,none⟩=some (int i64 t0.bar):=by
  have:=(atT (hc.out.below hR.out hU) h8).1;simpa using this
 have hh:=qh h8;clear h8;have c1:=HC.c1;by_cases h0:t0.bar=0
 case neg =>
  have f0:(t0.bar != 0)=true:=by simpa using h0
  have HF:Hid (r=false):=qh (by rw [← HR.out];unfold FA;rw [KE hh.out,decide_eq_false h0];rfl);clear h0;go_enter Tryz.func46,Tryz.ntmps46;go_wp2_with fail;go_ret;exact ⟨by rw [HF.out];rfl,hR.out⟩
 have f0:(t0.bar != 0)=false:=by simpa using h0
 have HH:=qh (show MB ts=true by rw [KE hh.out,decide_eq_true h0]);have HZ:=qh h0;clear h0;go_enter Tryz.func46,Tryz.ntmps46;go_wp2_with fail;generalize w.alloc (.cells #[int i64 bars,.slice (some ⟨b,o,none⟩) nT cT,vP,vS] 63)=w0 at *;have hH:=qh HC;clear HC p0 f0 c1;have Hb:Hid (Bn bars (-1) ts=Bn bars (-1) (ts.drop 0)):=qh rfl;have Hc:Hid (∀i0 p,0=i0+1→ts[i0]?=some p→p.bar=(-1:Int)):=qh λi0 p h=>by omega
 go_loopw [3] (λiv wr=>∃(i:Nat) (last:Int),i≤nT∧iv=int i64 i∧(i=0∧last=-1∨0<i∧0≤last)∧Hid (Bn bars (-1) ts=Bn bars last (ts.drop i))∧Hid (∀i0 p,i=i0+1→ts[i0]?=some p→p.bar=last)∧Hid (ClkBox w0 w.heap.size bars (.slice (some ⟨b,o,none⟩) nT cT) vP vS wr)) (λiv _=>nT-(intOf iv).toNat)
 case atStart=>exact ⟨0,-1,Nat.zero_le _,rfl,Or.inl ⟨rfl,rfl⟩,Hb,Hc,hH⟩
 case round =>
  clear hH Hb Hc;obtain ⟨i,last,hi,rfl,hG,hA,hP,hB⟩:=hrel;obtain ⟨hT,c0,c1,c2,c3⟩:=hB.out;have hI:=hR.out.trans (hT.mono hR.out.size);have HE:=qh hT;have hC:=qh hI;have hl:=hT.size;clear hT hI;by_cases Hu:i<nT
  ·have HG:(i:Int)<(nT:Int):=by omega
   obtain ⟨p,hs⟩:∃s,ts[i]?=some s:=⟨_,qg (by rw [HN.out];exact Hu)⟩;obtain ⟨p0,p1,p2⟩:=atT (hc.out.below hC.out hU) hs
   have Hd:Bn bars (-1) ts=((inB p.bar (last+1) (bars-1)&&inB p.ticks (-65536) 65536&&inB p.step (-65536) 65536)&&Bn bars p.bar (ts.drop (i+1))):=by
    rw [hA.out,F8 hs,Mm]
   have HI:i=0→p.bar=0:=λh=>by
    subst h;have:=hs.symm.trans hh.out;cases this;exact HZ.out
   have hm:=qh Hd;have hd:Hid (Bn bars (-1) ts=false→r=false):=qh λh=>by rw [← HR.out];unfold FA;rw [h];simp
   have He:Hid (∀i0 q,i+1=i0+1→ts[i0]?=some q→q.bar=p.bar):=qh λi0 q h1 h2=>by
    obtain rfl:i0=i:=by omega
    rw [hs] at h2;cases h2;rfl
   have ho:=hB.out.next (w2:=wr.alloc (.cells #[int i64 p.bar,int i64 p.ticks,int i64 p.step] 80)) HD ((Below.refl _ _).alloc hl _)
   have x2:=heap_alloc_new wr (.cells #[int i64 p.bar,int i64 p.ticks,int i64 p.step] 80)
   have HJ:Hid (0<i→∀W,Below w.heap.size w W→∃i0:Nat,(i:Int)-1=(i0:Int)∧(i0:Int)<(nT:Int)∧W.cell? ⟨b,o+i0*3,none⟩=some (int i64 last)):=qh λh W hW=>by
    obtain ⟨i0,rfl⟩:∃i0,i=i0+1:=⟨i-1,by omega⟩;obtain ⟨q,hq⟩:∃s,ts[i0]?=some s:=⟨_,qg (by rw [HN.out];omega)⟩;refine ⟨i0,by omega,by omega,?_⟩;rw [← hP.out i0 q rfl hq];exact (atT (hc.out.below hW hU) hq).1
   have e0:=ho.c0;have e1:=ho.c1;clear hs hA hB Hd hP;go_wp2_with fail;generalize wr.alloc (.cells #[int i64 p.bar,int i64 p.ticks,int i64 p.step] 80)=w5 at *;have l0:w5.cell? ⟨wr.heap.size,0,none⟩=some (int i64 p.bar):=Aa x2 0 rfl;have l1:w5.cell? ⟨wr.heap.size,1,none⟩=some (int i64 p.ticks):=Aa x2 1 rfl;have l2:w5.cell? ⟨wr.heap.size,2,none⟩=some (int i64 p.step):=Aa x2 2 rfl;have Hv:=qh ho;have hJ:=qh (hR.out.trans (ho.below.mono hR.out.size));clear c0 c1 c2 c3 p0 p1 p2 x2 ho;generalize wr.heap.size=gw at *
   have HK:(0<i∧∃i0:Nat,(i:Int)-1=(i0:Int)∧(i0:Int)<(nT:Int)∧IntKind.i64.wrap (i0:Int)=(i0:Int)∧w5.cell? ⟨b,o+i0*3,none⟩=some (int i64 last))∨¬0<i:=by
    by_cases h:0<i
    ·obtain ⟨i0,a1,a2,a3⟩:=HJ.out h w5 hJ.out
     exact Or.inl ⟨h,i0,a1,a2,IntWalk.i64_in _ (by omega),a3⟩
    ·exact Or.inr h
   by_cases hF:inB p.bar (last+1) (bars-1)=true
   case neg =>
    rw [Bool.not_eq_true] at hF
    have Hw:(0<i∧p.bar≤last)∨(¬p.bar≤last∧bars≤p.bar):=by
     rw [BH] at hF;by_cases h:0<i
     ·omega
     ·have:=HI (by omega);omega
    obtain rfl:r=false:=hd.out (by rw [hm.out,hF];rfl);clear hF hm hd He HJ HI;rcases Hw with ⟨hf,Hx⟩|⟨Hy,H9⟩
    ·rcases HK with ⟨hf,i0,Hf,hp,Hg,pc⟩|HL
     ·clear hG
      go_quiet (fail);go_wp2_with fail;go_ret;exact ⟨rfl,Cq hJ.out _⟩
     ·exact absurd hf HL
    ·clear hG
     rcases HK with ⟨hf,i0,Hf,hp,Hg,pc⟩|hf
     all_goals
      go_quiet (fail);go_wp2_with fail;go_ret;exact ⟨rfl,Cq hJ.out _⟩
   have Hz:=AR.1 hF;have Hy:¬p.bar≤last:=by omega
   have H0:¬bars≤p.bar:=by omega
   have hQ:0≤p.bar:=by omega
   have HM:=qh hF;have H1:=qh (λq=>Uz Hv.out q);clear hF Hz HJ HI hG HE;rcases HK with ⟨hf,i0,Hf,hp,Hg,pc⟩|hf
   all_goals
    go_quiet (fail);go_wp2_with fail;refine (CA p.ticks (-65536) 65536 _).mono ?_;rintro e w6 ⟨rfl,rfl⟩
    cases q0:inB p.ticks (-65536) 65536 with
    | false =>
     obtain rfl:r=false:=hd.out (by rw [hm.out,q0];simp);clear q0;go_wp2_with fail;go_ret;exact ⟨rfl,Cq hJ.out _⟩
    | true =>
     have Q0:=qh q0;clear q0;go_wp2_with fail;refine (CA p.step (-65536) 65536 _).mono ?_;rintro e w7 ⟨rfl,rfl⟩
     cases q1:inB p.step (-65536) 65536 with
     | false =>
      obtain rfl:r=false:=hd.out (by rw [hm.out,q1];simp);clear q1;go_wp2_with fail;go_ret;exact ⟨rfl,Cq hJ.out _⟩
     | true =>
      have H2:=qh (show Bn bars (-1) ts=Bn bars p.bar (ts.drop (i+1)) by rw [hm.out,HM.out,Q0.out,q1];rfl);clear q1;go_wp2_with fail;go_roundw
      case rel=>exact ⟨i+1,p.bar,by omega,by go_num,Or.inr ⟨by omega,hQ⟩,H2,He,qh (H1.out _)⟩
      case measure=>simp [intOf]<;>omega
  ·obtain rfl:i=nT:=by omega
   have HG:¬(i:Int)<(i:Int):=by omega
   have h9:Bn bars (-1) ts=true:=by
    have:=hA.out;rw [List.drop_of_length_le (by rw [HN.out];exact qn _)] at this;rw [this];rfl
   obtain ⟨HO,hZ⟩:=CD h9;have hu:=NU h9 hh.out HZ.out
   have HP:∀x:Int,0≤x→x≤bars-1→GI ts x:=λx h1 h2=>⟨HO,FD hh.out (by rw [HZ.out];exact h1),h1,by omega,λt ht=>by have:=hZ t ht;omega⟩
   have Hh:=qh h9;have hv:=qh hu;have uA:=qh HP;have hx:=qh hZ;have uB:=qh HO;have Hi:=qh (λ(W:World) (hb:Below w.heap.size w W) (x:Int) (h1:0≤x) (h2:x≤bars-1)=>M8 bars x b o i cT vP vS ts W HN.out (by omega) (hc.out.below hb hU) (Nat.lt_of_lt_of_le hU hb.size) (HP x h1 h2))
   have hd:Hid (∀k,k<i→IP bars ts k=false→r=false):=qh λk hk h=>by
    rw [← HR.out];unfold FA
    have:C0 ts bars.toNat=false:=by
     rw [Bool.eq_false_iff];intro q;have:=hv.out.1 q k (by rw [HN.out];exact hk);rw [h] at this;cases this
    rw [this];simp
   have Hj:Hid (∀k,k<0→IP bars ts k=true):=qh λk hk=>by omega
   clear hA hP hG h9 HO hZ hu HP c0 c1 c2 c3 hl;have c1:=hB.out.c1;go_wp2_with fail;clear c1 hC HE;go_loopw [5] (λjv wr=>∃j:Nat,j≤i∧jv=int i64 j∧Hid (∀k,k<j→IP bars ts k=true)∧Hid (ClkBox w0 w.heap.size bars (.slice (some ⟨b,o,none⟩) i cT) vP vS wr)) (λjv _=>i-(intOf jv).toNat)
   case atStart=>exact ⟨0,Nat.zero_le _,rfl,Hj,hB⟩
   case round =>
    clear hB Hj;obtain ⟨j,hj,rfl,hS,hB⟩:=hrel;obtain ⟨hT,c0,c1,c2,c3⟩:=hB.out;have hI:=hR.out.trans (hT.mono hR.out.size);have HE:=qh hT;have hC:=qh hI;have hl:=hT.size;clear hT hI;by_cases Hk:j<i
    ·have HQ:(j:Int)<(i:Int):=by omega
     obtain ⟨p,hs⟩:∃s,ts[j]?=some s:=⟨_,qg (by rw [HN.out];exact Hk)⟩;obtain ⟨p0,p1,p2⟩:=atT (hc.out.below hC.out hU) hs;obtain ⟨j1,Hl⟩:∃x,j+1=x:=⟨_,rfl⟩;have H3:(j:Int)+1=(j1:Int):=by omega
     obtain ⟨L,hL⟩:∃x,Cv bars ts j=x:=⟨_,rfl⟩;have Hm:=FQ Hh.out hs;rw [hL] at Hm;have H4:=hx.out p (List.mem_of_getElem? hs)
     have hM:(∃q:Tmp,(j1:Int)<(i:Int)∧wr.cell? ⟨b,o+j1*3,none⟩=some (int i64 q.bar)∧q.bar-1=L∧-4096≤q.bar∧q.bar≤4096)∨(¬(j1:Int)<(i:Int)∧bars-1=L):=by
      by_cases h:j1<i
      ·obtain ⟨q,hq⟩:∃s,ts[j1]?=some s:=⟨_,qg (by rw [HN.out];exact h)⟩
       have HS:=hx.out q (List.mem_of_getElem? hq);refine Or.inl ⟨q,by omega,(atT (hc.out.below hC.out hU) hq).1,?_,by omega,by omega⟩;rw [← hL];unfold Cv;rw [Hl,hq]
      ·refine Or.inr ⟨by omega,?_⟩
       rw [← hL];unfold Cv;rw [Hl,List.getElem?_eq_none (by rw [HN.out];omega)]
     have Hn:IP bars ts j=(inB (Bm ts p.bar) 1 65536&&inB (Bm ts L) 1 65536):=by
      unfold IP;rw [hL,show ts[j]! = p by simp [hs]]
     have hV:=qh Hn;have hy:=qh (hd.out j Hk);have HA:=qh (λ(W:World) (hb:Below w.heap.size w W)=>Hi.out W hb p.bar (by omega) (by omega));have HT:=qh (λ(W:World) (hb:Below w.heap.size w W)=>Hi.out W hb L (by omega) (by omega))
     have HB:Hid (IP bars ts j=true→∀k,k<j1→IP bars ts k=true):=qh λh k hk=>by
      by_cases e:k=j
      ·rw [e];exact h
      ·exact hS.out k (by omega)
     clear hs hL Hn hS p1 p2
     have KS:Hid (∀w2,Below wr.heap.size wr w2→w2.cell? ⟨w.heap.size,0,none⟩=some (int i64 bars)∧w2.cell? ⟨w.heap.size,1,none⟩=some (.slice (some ⟨b,o,none⟩) i cT)∧w2.cell? ⟨w.heap.size,2,none⟩=some vP∧w2.cell? ⟨w.heap.size,3,none⟩=some vS∧w2.cell? ⟨b,o+j*3,none⟩=some (int i64 p.bar)):=qh λw2 h=>by
      have hb:=hB.out.next HD (h.mono hl)
      refine ⟨hb.c0,hb.c1,hb.c2,hb.c3,?_⟩;exact (h.cell (p:=⟨b,o+j*3,none⟩) (Nat.lt_of_lt_of_le hU hC.out.size)).trans p0
     have H5:Hid (∀w2,Below wr.heap.size wr w2→ClkBox w0 w.heap.size bars (.slice (some ⟨b,o,none⟩) i cT) vP vS w2):=qh λw2 h=>hB.out.next HD (h.mono hl)
     have hg:=qh (λW=>CA (Bm ts p.bar) 1 65536 W);have h6:=qh (λW=>CA (Bm ts L) 1 65536 W);clear hB H4 Hm;obtain ⟨T1,Ho⟩:∃x,Bm ts p.bar=x:=⟨_,rfl⟩;obtain ⟨T2,Hp⟩:∃x,Bm ts L=x:=⟨_,rfl⟩;rw [Ho] at hg HA hV;rw [Hp] at h6 HT hV;clear Ho Hp
     cases q1:inB T1 1 65536 with
     | false =>
      obtain rfl:r=false:=hy.out (by rw [hV.out,q1];rfl);rw [q1] at hg;clear q1 hV hy HB;rcases hM with ⟨q,hE,q0,hY,Hq,HS⟩|⟨hE,hY⟩
      all_goals
       go_wp2_with fail;clear hY hE;refine wp_region_noPanic ?_;refine wp_region_held (S:=λw2=>w2.cell? ⟨w.heap.size,0,none⟩=some (int i64 bars)∧w2.cell? ⟨w.heap.size,1,none⟩=some (.slice (some ⟨b,o,none⟩) i cT)∧w2.cell? ⟨w.heap.size,2,none⟩=some vP∧w2.cell? ⟨w.heap.size,3,none⟩=some vS∧w2.cell? ⟨b,o+j*3,none⟩=some (int i64 p.bar)) (by kernel_rfl) ?_;change wpAnyH _ _ _ _ _ _ _ _ wr.drew;have hS:=KS.out _ (Below.refl wr.heap.size wr).drew;refine tk 0 _ (.agg #[int i64 bars,.slice (some ⟨b,o,none⟩) i cT,vP,vS]) rfl (λw hw=>by obtain ⟨h1,h2,h3,h4,h5⟩:=hw;go_simp) hS ?_;simp only [qA,qB,qC,Act.put,qD,qE,qF];refine tk 1 _ (.pointer (some ⟨w.heap.size,1,none⟩)) rfl (λw hw=>by obtain ⟨h1,h2,h3,h4,h5⟩:=hw;go_simp) hS ?_;simp only [qA,qB,qC,Act.put,qD,qE,qF];refine tk 2 _ (.slice (some ⟨b,o,none⟩) i cT) rfl (λw hw=>by obtain ⟨h1,h2,h3,h4,h5⟩:=hw;go_simp) hS ?_;simp only [qA,qB,qC,Act.put,qD,qE,qF];refine tk 3 _ (int i64 j) rfl (λw hw=>by obtain ⟨h1,h2,h3,h4,h5⟩:=hw;go_simp) hS ?_;simp only [qA,qB,qC,Act.put,qD,qE,qF];refine tk 4 _ (.pointer (some ⟨b,o+j*3,none⟩)) rfl (λw hw=>by obtain ⟨h1,h2,h3,h4,h5⟩:=hw;go_simp) hS ?_;simp only [qA,qB,qC,Act.put,qD,qE,qF];refine tk 5 _ (.pointer (some ⟨b,o+j*3,none⟩)) rfl (λw hw=>by obtain ⟨h1,h2,h3,h4,h5⟩:=hw;go_simp) hS ?_;simp only [qA,qB,qC,Act.put,qD,qE,qF];refine tk 6 _ (int i64 p.bar) rfl (λw hw=>by obtain ⟨h1,h2,h3,h4,h5⟩:=hw;go_simp) hS ?_;simp only [qA,qB,qC,Act.put,qD,qE,qF];refine tr 7 _ (by kernel_rfl) rfl λK1 hK=>?_
       go_simp;refine (HA.out _ hC.out.drew).mono ?_;rintro e w5 ⟨rfl,hQ⟩;have hN:Below wr.heap.size wr w5:=(Below.refl wr.heap.size wr).drew.trans hQ;have hH:=qh hN;have hD:=KS.out _ hN;refine hK.out _ _ hD (λ_=>?_);clear hK K1 hS hQ hN
       try simp only [qA,qB,qC,Act.put,qD,qE,qF]
       refine tr 8 _ (by kernel_rfl) rfl λK1 hK=>?_
       go_simp;refine (hg.out _).mono ?_;rintro e w6 ⟨rfl,rfl⟩;refine hK.out _ _ hD (λ_=>?_);clear hK K1
       try simp only [qA,qB,qC,Act.put,qD,qE,qF]
       refine tk 9 _ (.bool true) rfl (λw hw=>by obtain ⟨h1,h2,h3,h4,h5⟩:=hw;go_simp) hD ?_;simp only [qA,qB,qC,Act.put,qD,qE,qF];refine tk 10 _ (.bool true) rfl (λw hw=>by obtain ⟨h1,h2,h3,h4,h5⟩:=hw;go_simp) hD ?_;simp only [qA,qB,qC,Act.put,qD,qE,qF];refine tq 11 _ undef rfl (by kernel_rfl) (λ_ _ _ h=>h) (Or.inr ⟨by kernel_rfl,rfl⟩) hD ?_;simp only [qA,qB,qC,Act.put,qD,qE,qF];refine tq 12 _ undef rfl (by kernel_rfl) (λ_ _ _ h=>h) (Or.inr ⟨by kernel_rfl,rfl⟩) hD ?_;simp only [qA,qB,qC,Act.put,qD,qE,qF];refine tq 13 _ undef rfl (by kernel_rfl) (λ_ _ _ h=>h) (Or.inr ⟨by kernel_rfl,rfl⟩) hD ?_;simp only [qA,qB,qC,Act.put,qD,qE,qF];refine tq 14 _ undef rfl (by kernel_rfl) (λ_ _ _ h=>h) (Or.inr ⟨by kernel_rfl,rfl⟩) hD ?_;simp only [qA,qB,qC,Act.put,qD,qE,qF];refine tq 15 _ undef rfl (by kernel_rfl) (λ_ _ _ h=>h) (Or.inr ⟨by kernel_rfl,rfl⟩) hD ?_;simp only [qA,qB,qC,Act.put,qD,qE,qF];refine tk 16 _ (.bool true) rfl (λw hw=>by obtain ⟨h1,h2,h3,h4,h5⟩:=hw;go_simp) hD ?_;simp only [qA,qB,qC,Act.put,qD,qE,qF];refine wpAnyH_done (by kernel_rfl) ?_ _;refine NoPanic.normal ?_;clear hD;go_wp2_with fail;go_ret;exact ⟨rfl,hC.out.trans (hH.out.mono hC.out.size)⟩
     | true =>
      rw [q1] at hg;have Q1:=qh q1;clear q1
      cases q2:inB T2 1 65536 with
      | false =>
       obtain rfl:r=false:=hy.out (by rw [hV.out,q2];simp);rw [q2] at h6;clear q2 hV hy HB;rcases hM with ⟨q,hE,q0,hY,Hq,HS⟩|⟨hE,hY⟩
       all_goals
        go_wp2_with fail;clear hY hE;refine wp_region_noPanic ?_;refine wp_region_held (S:=λw2=>w2.cell? ⟨w.heap.size,0,none⟩=some (int i64 bars)∧w2.cell? ⟨w.heap.size,1,none⟩=some (.slice (some ⟨b,o,none⟩) i cT)∧w2.cell? ⟨w.heap.size,2,none⟩=some vP∧w2.cell? ⟨w.heap.size,3,none⟩=some vS∧w2.cell? ⟨b,o+j*3,none⟩=some (int i64 p.bar)) (by kernel_rfl) ?_;change wpAnyH _ _ _ _ _ _ _ _ wr.drew;have hS:=KS.out _ (Below.refl wr.heap.size wr).drew;refine tk 0 _ (.agg #[int i64 bars,.slice (some ⟨b,o,none⟩) i cT,vP,vS]) rfl (λw hw=>by obtain ⟨h1,h2,h3,h4,h5⟩:=hw;go_simp) hS ?_;simp only [qA,qB,qC,Act.put,qD,qE,qF];refine tk 1 _ (.pointer (some ⟨w.heap.size,1,none⟩)) rfl (λw hw=>by obtain ⟨h1,h2,h3,h4,h5⟩:=hw;go_simp) hS ?_;simp only [qA,qB,qC,Act.put,qD,qE,qF];refine tk 2 _ (.slice (some ⟨b,o,none⟩) i cT) rfl (λw hw=>by obtain ⟨h1,h2,h3,h4,h5⟩:=hw;go_simp) hS ?_;simp only [qA,qB,qC,Act.put,qD,qE,qF];refine tk 3 _ (int i64 j) rfl (λw hw=>by obtain ⟨h1,h2,h3,h4,h5⟩:=hw;go_simp) hS ?_;simp only [qA,qB,qC,Act.put,qD,qE,qF];refine tk 4 _ (.pointer (some ⟨b,o+j*3,none⟩)) rfl (λw hw=>by obtain ⟨h1,h2,h3,h4,h5⟩:=hw;go_simp) hS ?_;simp only [qA,qB,qC,Act.put,qD,qE,qF];refine tk 5 _ (.pointer (some ⟨b,o+j*3,none⟩)) rfl (λw hw=>by obtain ⟨h1,h2,h3,h4,h5⟩:=hw;go_simp) hS ?_;simp only [qA,qB,qC,Act.put,qD,qE,qF];refine tk 6 _ (int i64 p.bar) rfl (λw hw=>by obtain ⟨h1,h2,h3,h4,h5⟩:=hw;go_simp) hS ?_;simp only [qA,qB,qC,Act.put,qD,qE,qF];refine tr 7 _ (by kernel_rfl) rfl λK1 hK=>?_
        go_simp;refine (HA.out _ hC.out.drew).mono ?_;rintro e w5 ⟨rfl,hQ⟩;have hN:Below wr.heap.size wr w5:=(Below.refl wr.heap.size wr).drew.trans hQ;have hH:=qh hN;have hD:=KS.out _ hN;refine hK.out _ _ hD (λ_=>?_);clear hK K1 hS hQ hN
        try simp only [qA,qB,qC,Act.put,qD,qE,qF]
        refine tr 8 _ (by kernel_rfl) rfl λK1 hK=>?_
        go_simp;refine (hg.out _).mono ?_;rintro e w6 ⟨rfl,rfl⟩;refine hK.out _ _ hD (λ_=>?_);clear hK K1
        try simp only [qA,qB,qC,Act.put,qD,qE,qF]
        refine tk 9 _ (.bool false) rfl (λw hw=>by obtain ⟨h1,h2,h3,h4,h5⟩:=hw;go_simp) hD ?_;simp only [qA,qB,qC,Act.put,qD,qE,qF];refine tk 10 _ (.bool false) rfl (λw hw=>by obtain ⟨h1,h2,h3,h4,h5⟩:=hw;go_simp) hD ?_;simp only [qA,qB,qC,Act.put,qD,qE,qF];refine tk 11 _ (.agg #[int i64 bars,.slice (some ⟨b,o,none⟩) i cT,vP,vS]) rfl (λw hw=>by obtain ⟨h1,h2,h3,h4,h5⟩:=hw;go_simp) hD ?_;simp only [qA,qB,qC,Act.put,qD,qE,qF];refine tk 12 _ (int i64 L) rfl (λw hw=>by obtain ⟨h1,h2,h3,h4,h5⟩:=hw;go_simp) hD ?_;simp only [qA,qB,qC,Act.put,qD,qE,qF];refine tr 13 _ (by kernel_rfl) rfl λK1 hK=>?_
        go_simp;refine (HT.out _ (hC.out.trans (hH.out.mono hC.out.size))).mono ?_;rintro e w8 ⟨rfl,h7⟩;have ha:Below wr.heap.size wr w8:=hH.out.trans (h7.mono hH.out.size);have HU:=qh ha;have hO:=KS.out _ ha;refine hK.out _ _ hO (λ_=>?_);clear hK K1 hD h7 ha
        try simp only [qA,qB,qC,Act.put,qD,qE,qF]
        refine tr 14 _ (by kernel_rfl) rfl λK1 hK=>?_
        go_simp;refine (h6.out _).mono ?_;rintro e w9 ⟨rfl,rfl⟩;refine hK.out _ _ hO (λ_=>?_);clear hK K1
        try simp only [qA,qB,qC,Act.put,qD,qE,qF]
        refine tk 15 _ (.bool true) rfl (λw hw=>by obtain ⟨h1,h2,h3,h4,h5⟩:=hw;go_simp) hO ?_;simp only [qA,qB,qC,Act.put,qD,qE,qF];refine tk 16 _ (.bool true) rfl (λw hw=>by obtain ⟨h1,h2,h3,h4,h5⟩:=hw;go_simp) hO ?_;simp only [qA,qB,qC,Act.put,qD,qE,qF];refine wpAnyH_done (by kernel_rfl) ?_ _;refine NoPanic.normal ?_;clear hO;go_wp2_with fail;go_ret;exact ⟨rfl,hC.out.trans (HU.out.mono hC.out.size)⟩
      | true =>
       have HV:=qh (HB.out (by rw [hV.out,Q1.out,q2];rfl));rw [q2] at h6;clear q2 hV hy HB;rcases hM with ⟨q,hE,q0,hY,Hq,HS⟩|⟨hE,hY⟩
       all_goals
        go_wp2_with fail;clear hY hE;refine wp_region_noPanic ?_;refine wp_region_held (S:=λw2=>w2.cell? ⟨w.heap.size,0,none⟩=some (int i64 bars)∧w2.cell? ⟨w.heap.size,1,none⟩=some (.slice (some ⟨b,o,none⟩) i cT)∧w2.cell? ⟨w.heap.size,2,none⟩=some vP∧w2.cell? ⟨w.heap.size,3,none⟩=some vS∧w2.cell? ⟨b,o+j*3,none⟩=some (int i64 p.bar)) (by kernel_rfl) ?_;change wpAnyH _ _ _ _ _ _ _ _ wr.drew;have hS:=KS.out _ (Below.refl wr.heap.size wr).drew;refine tk 0 _ (.agg #[int i64 bars,.slice (some ⟨b,o,none⟩) i cT,vP,vS]) rfl (λw hw=>by obtain ⟨h1,h2,h3,h4,h5⟩:=hw;go_simp) hS ?_;simp only [qA,qB,qC,Act.put,qD,qE,qF];refine tk 1 _ (.pointer (some ⟨w.heap.size,1,none⟩)) rfl (λw hw=>by obtain ⟨h1,h2,h3,h4,h5⟩:=hw;go_simp) hS ?_;simp only [qA,qB,qC,Act.put,qD,qE,qF];refine tk 2 _ (.slice (some ⟨b,o,none⟩) i cT) rfl (λw hw=>by obtain ⟨h1,h2,h3,h4,h5⟩:=hw;go_simp) hS ?_;simp only [qA,qB,qC,Act.put,qD,qE,qF];refine tk 3 _ (int i64 j) rfl (λw hw=>by obtain ⟨h1,h2,h3,h4,h5⟩:=hw;go_simp) hS ?_;simp only [qA,qB,qC,Act.put,qD,qE,qF];refine tk 4 _ (.pointer (some ⟨b,o+j*3,none⟩)) rfl (λw hw=>by obtain ⟨h1,h2,h3,h4,h5⟩:=hw;go_simp) hS ?_;simp only [qA,qB,qC,Act.put,qD,qE,qF];refine tk 5 _ (.pointer (some ⟨b,o+j*3,none⟩)) rfl (λw hw=>by obtain ⟨h1,h2,h3,h4,h5⟩:=hw;go_simp) hS ?_;simp only [qA,qB,qC,Act.put,qD,qE,qF];refine tk 6 _ (int i64 p.bar) rfl (λw hw=>by obtain ⟨h1,h2,h3,h4,h5⟩:=hw;go_simp) hS ?_;simp only [qA,qB,qC,Act.put,qD,qE,qF];refine tr 7 _ (by kernel_rfl) rfl λK1 hK=>?_
        go_simp;refine (HA.out _ hC.out.drew).mono ?_;rintro e w5 ⟨rfl,hQ⟩;have hN:Below wr.heap.size wr w5:=(Below.refl wr.heap.size wr).drew.trans hQ;have hH:=qh hN;have hD:=KS.out _ hN;refine hK.out _ _ hD (λ_=>?_);clear hK K1 hS hQ hN
        try simp only [qA,qB,qC,Act.put,qD,qE,qF]
        refine tr 8 _ (by kernel_rfl) rfl λK1 hK=>?_
        go_simp;refine (hg.out _).mono ?_;rintro e w6 ⟨rfl,rfl⟩;refine hK.out _ _ hD (λ_=>?_);clear hK K1
        try simp only [qA,qB,qC,Act.put,qD,qE,qF]
        refine tk 9 _ (.bool false) rfl (λw hw=>by obtain ⟨h1,h2,h3,h4,h5⟩:=hw;go_simp) hD ?_;simp only [qA,qB,qC,Act.put,qD,qE,qF];refine tk 10 _ (.bool false) rfl (λw hw=>by obtain ⟨h1,h2,h3,h4,h5⟩:=hw;go_simp) hD ?_;simp only [qA,qB,qC,Act.put,qD,qE,qF];refine tk 11 _ (.agg #[int i64 bars,.slice (some ⟨b,o,none⟩) i cT,vP,vS]) rfl (λw hw=>by obtain ⟨h1,h2,h3,h4,h5⟩:=hw;go_simp) hD ?_;simp only [qA,qB,qC,Act.put,qD,qE,qF];refine tk 12 _ (int i64 L) rfl (λw hw=>by obtain ⟨h1,h2,h3,h4,h5⟩:=hw;go_simp) hD ?_;simp only [qA,qB,qC,Act.put,qD,qE,qF];refine tr 13 _ (by kernel_rfl) rfl λK1 hK=>?_
        go_simp;refine (HT.out _ (hC.out.trans (hH.out.mono hC.out.size))).mono ?_;rintro e w8 ⟨rfl,h7⟩;have ha:Below wr.heap.size wr w8:=hH.out.trans (h7.mono hH.out.size);have HU:=qh ha;have hO:=KS.out _ ha;refine hK.out _ _ hO (λ_=>?_);clear hK K1 hD h7 ha
        try simp only [qA,qB,qC,Act.put,qD,qE,qF]
        refine tr 14 _ (by kernel_rfl) rfl λK1 hK=>?_
        go_simp;refine (h6.out _).mono ?_;rintro e w9 ⟨rfl,rfl⟩;refine hK.out _ _ hO (λ_=>?_);clear hK K1
        try simp only [qA,qB,qC,Act.put,qD,qE,qF]
        refine tk 15 _ (.bool false) rfl (λw hw=>by obtain ⟨h1,h2,h3,h4,h5⟩:=hw;go_simp) hO ?_;simp only [qA,qB,qC,Act.put,qD,qE,qF];refine tk 16 _ (.bool false) rfl (λw hw=>by obtain ⟨h1,h2,h3,h4,h5⟩:=hw;go_simp) hO ?_;simp only [qA,qB,qC,Act.put,qD,qE,qF];refine wpAnyH_done (by kernel_rfl) ?_ _;refine NoPanic.normal ?_;clear hO;go_wp2_with fail;go_roundw
        case rel=>exact ⟨j1,by omega,by go_num,HV,qh (H5.out _ HU.out)⟩
        case measure=>simp [intOf]<;>omega
    ·obtain rfl:j=i:=by omega
     have HQ:¬(j:Int)<(j:Int):=by omega
     have HF:Hid (r=true):=qh (by
      rw [← HR.out];unfold FA
      rw [HH.out,Hh.out,hv.out.2 (λk hk=>hS.out k (by rw [← HN.out];exact hk))];rfl)
     clear hB hS;go_wp2_with fail;go_ret;exact ⟨by rw [HF.out];rfl,hC.out⟩
end
section
open Go Go.RowKit
open Go Go.RowKit Go.Deep
theorem Lr(bars:Int)(ts:List Tmp)(ps:List Pau)(ss:List Con):E4 ⟨bars,ts,ps,ss⟩=(inB bars 1 4096&&FA bars ts&&Bw bars (-1) ps&&ss.all (Cs bars)):=by
 unfold E4 BP FA MB;cases ts<;>simp [Bool.and_assoc]
theorem JW(bars:Int)(ts:List Tmp)(ps:List Pau)(ss:List Con)(aT aP aS:Option Addr)(nT nP nS cT cP cS:Nat)(w:World)(hK:ts.length=nT)(hL:ps.length=nP)(hM:ss.length=nS)
  (hT:IsRow DP 3 w (.slice aT nT cT) ts) (hP:IsRow Fe 4 w (.slice aP nP cP) ps) (hS:IsRow F9 4 w (.slice aS nS cS) ss) :
  Calls Tryz.prog 26 #[.agg #[int i64 bars,.slice aT nT cT,.slice aP nP cP,.slice aS nS cS]] w λe w'=>e=.returned (int i64 (CW ⟨bars,ts,ps,ss⟩))∧Below w.heap.size w w':=by
 obtain ⟨r,hr⟩:∃r,CW ⟨bars,ts,ps,ss⟩=r:=⟨_,rfl⟩;rw [hr];have hE:Ck ⟨bars,ts,ps,ss⟩=(decide (nT≤4096)&&decide (nP≤4096)&&decide (nS≤256)):=by unfold Ck;rw [← hK,← hL,← hM]
 have HR:=qh hr;have hA:=qh hE;have hF:=qh (Lr bars ts ps ss);have hR:Ck ⟨bars,ts,ps,ss⟩=false→r=2:=λh=>by rw [← HR.out];unfold CW;rw [h];rfl
 have hG:Ck ⟨bars,ts,ps,ss⟩=true→E4 ⟨bars,ts,ps,ss⟩=false→r=130:=λh h2=>by rw [← HR.out];unfold CW;rw [h,h2];rfl
 have hU:Ck ⟨bars,ts,ps,ss⟩=true→E4 ⟨bars,ts,ps,ss⟩=true→r=0:=λh h2=>by rw [← HR.out];unfold CW;rw [h,h2];rfl
 have hN:=qh hR;have hB:=qh hG;have he:=qh hU;have hV:=ClkBox.make w bars (.slice aT nT cT) (.slice aP nP cP) (.slice aS nS cS);have hW:Below w.heap.size w (w.alloc (.cells #[int i64 bars,.slice aT nT cT,.slice aP nP cP,.slice aS nS cS] 63)):=(Below.refl _ w).alloc (qn _) _;have hO:w.heap.size<(w.alloc (.cells #[int i64 bars,.slice aT nT cT,.slice aP nP cP,.slice aS nS cS] 63)).heap.size:=by simp
 have mT:nT≤maxLen:=by obtain ⟨_,_,_,h,_⟩:=hT;omega
 have mP:nP≤maxLen:=by obtain ⟨_,_,_,h,_⟩:=hP;omega
 have mS:nS≤maxLen:=by obtain ⟨_,_,_,h,_⟩:=hS;omega
 simp only [maxLen] at mT mP mS;have hC:=qh hW;have hX:=qh hV;have HT:=qh (λ(W:World) (hb:Below w.heap.size w W) (h1:1≤bars) (h2:bars≤4096) (h3:nT≤4096)=>L8 bars h1 h2 (.slice aP nP cP) (.slice aS nS cS) ts aT nT cT W hK h3 (hT.below hb (qn _)));have HP:=qh (λ(W:World) (hb:Below w.heap.size w W) (h1:1≤bars) (h2:bars≤4096)=>L5 bars h1 h2 (.slice aT nT cT) (.slice aS nS cS) ps aP nP cP W hL (hP.below hb (qn _)));have HS:=qh (λ(W:World) (hb:Below w.heap.size w W) (h1:1≤bars) (h2:bars≤4096)=>M6 bars h1 h2 (.slice aT nT cT) (.slice aP nP cP) ss aS nS cS W hM (hS.below hb (qn _)));clear hr hE hR hG hU hW hT hP hS hK hL hM;obtain ⟨_,c0,c1,c2,c3⟩:=hV;by_cases q1:(4096:Int)<(nT:Int)
 ·have HF:=qh (hN.out (by rw [hA.out,decide_eq_false (show ¬nT≤4096 by omega)];rfl))
  go_enter Tryz.func26,Tryz.ntmps26;go_wp2_with fail;go_ret;exact ⟨by rw [HF.out];rfl,hC.out⟩
 by_cases q2:(4096:Int)<(nP:Int)
 ·have HF:=qh (hN.out (by rw [hA.out,decide_eq_false (show ¬nP≤4096 by omega)];simp))
  go_enter Tryz.func26,Tryz.ntmps26;go_wp2_with fail;go_ret;exact ⟨by rw [HF.out];rfl,hC.out⟩
 by_cases q3:(256:Int)<(nS:Int)
 ·have HF:=qh (hN.out (by rw [hA.out,decide_eq_false (show ¬nS≤256 by omega)];simp))
  go_enter Tryz.func26,Tryz.ntmps26;go_wp2_with fail;go_ret;exact ⟨by rw [HF.out];rfl,hC.out⟩
 have HL:=qh (show Ck ⟨bars,ts,ps,ss⟩=true by rw [hA.out,decide_eq_true (show nT≤4096 by omega),decide_eq_true (show nP≤4096 by omega),decide_eq_true (show nS≤256 by omega)];rfl);have hf:nT≤4096:=by omega
 go_enter Tryz.func26,Tryz.ntmps26;go_wp2_with fail;clear q1 q2 q3;generalize w.alloc (.cells #[int i64 bars,.slice aT nT cT,.slice aP nP cP,.slice aS nS cS] 63)=w0 at *;refine (CA bars 1 4096 w0).mono ?_;rintro e w1 ⟨rfl,rfl⟩
 cases b1:inB bars 1 4096 with
 | false =>
  have HF:=qh (hB.out HL.out (by rw [hF.out,b1];rfl));go_wp2_with fail;go_ret;exact ⟨by rw [HF.out];rfl,hC.out⟩
 | true =>
 have hD:=AR.1 b1;have B1:=qh b1;have hY:=qh (HT.out w1 hC.out hD.1 hD.2 hf);clear b1 HT;go_wp2_with fail;refine hY.out.mono ?_;rintro e w2 ⟨rfl,hH⟩;obtain ⟨_,d0,d1,d2,d3⟩:=hX.out.next (w2:=w2) hO hH
 have hg:=qh (hX.out.next (w2:=w2) hO hH);have hI:=qh (hC.out.trans (hH.mono hC.out.size));have hh:=hH.size;clear c0 c1 c2 c3 hH hY
 cases b2:FA bars ts with
 | false =>
  have HF:=qh (hB.out HL.out (by rw [hF.out,b2];simp));go_wp2_with fail;go_ret;exact ⟨by rw [HF.out];rfl,hI.out⟩
 | true =>
 have B2:=qh b2;have hZ:=qh (HP.out w2 hI.out hD.1 hD.2);clear b2 HP;go_wp2_with fail;refine hZ.out.mono ?_;rintro e w3 ⟨rfl,hQ⟩;obtain ⟨_,c0,c1,c2,c3⟩:=hg.out.next (w2:=w3) hO (hQ.mono hh)
 have hJ:=qh (hI.out.trans (hQ.mono hI.out.size));clear d0 d1 d2 d3 hQ hZ
 cases b3:Bw bars (-1) ps with
 | false =>
  have HF:=qh (hB.out HL.out (by rw [hF.out,b3];simp));go_wp2_with fail;go_ret;exact ⟨by rw [HF.out];rfl,hJ.out⟩
 | true =>
 have B3:=qh b3;have ha:=qh (HS.out w3 hJ.out hD.1 hD.2);clear b3 HS;go_wp2_with fail;refine ha.out.mono ?_;rintro e w4 ⟨rfl,hc⟩;have hd:=qh (hJ.out.trans (hc.mono hJ.out.size));clear c0 c1 c2 c3 hc ha
 cases b4:ss.all (Cs bars) with
 | false =>
  have HF:=qh (hB.out HL.out (by rw [hF.out,b4];simp));go_wp2_with fail;go_ret;exact ⟨by rw [HF.out];rfl,hd.out⟩
 | true =>
  have HF:=qh (he.out HL.out (by rw [hF.out,B1.out,B2.out,B3.out,b4];rfl));go_wp2_with fail;go_ret;exact ⟨by rw [HF.out];rfl,hd.out⟩
end
section
open Go Go.RowKit Go.Deep
def Lu(s:Ls):Array Value:=#[int i64 s.bars,.slice s.ta s.tempos.length s.tc,.slice s.ua s.pauses.length s.uc,.slice s.sa s.spans.length s.sc]
theorem IZ(s:Ls)(w:World):Calls Tryz.prog 27 #[s.val] w λe w'=>e=.returned (.agg (Lu s))∧Below w.heap.size w w':=by
 obtain ⟨W1,hE,g1,b1,s1⟩:=Ag w s.cells 30;obtain ⟨B2,hB⟩:∃B2,W1.heap.size=B2:=⟨_,rfl⟩;obtain ⟨W2,hI,g2,b2,s2⟩:=Ag W1 #[int i64 0,.slice none 0 0,.slice none 0 0,.slice none 0 0] 63;have y3:W2.cell? ⟨w.heap.size,3,none⟩=some (int i64 s.bars):=Aa (Ah b2 g1) 3 rfl;have y7:W2.cell? ⟨w.heap.size,7,none⟩=some (.slice s.ta s.tempos.length s.tc):=Aa (Ah b2 g1) 7 rfl;have y8:W2.cell? ⟨w.heap.size,8,none⟩=some (.slice s.ua s.pauses.length s.uc):=Aa (Ah b2 g1) 8 rfl;have y9:W2.cell? ⟨w.heap.size,9,none⟩=some (.slice s.sa s.spans.length s.sc):=Aa (Ah b2 g1) 9 rfl;rw [hB] at g2;have hC:w.heap.size≤B2:=by omega
 have hv:s.val=.agg s.cells:=rfl;rw [hv];obtain ⟨W3,hD,g3,b3⟩:=AC (cs:=Lu s) g2 (Ad b1 b2) hC;have hF:=qh g2;have HB:=qh b3;have hG:=qh g3;have hH:=qh hD;have hJ:=qh hB;unfold Ls.cells at hE ⊢;clear hv g1 g2 b1 b2 s1 s2 g3 b3 hD hC;have hx:(Lu s).all (·.oneCell')=true:=by simp [Lu,Value.oneCell']
 have hA:=qh hx;clear hx;go_enter Tryz.func27,Tryz.ntmps27
 go_wp2_with (refine wpList_store_row rfl 63 _ _ rfl B2 (Lu s) rfl rfl 63 _ hF.out (by kernel_rfl) rfl hA.out ?_;rw [hH.out]);refine ⟨rfl,.agg (Lu s),?_,rfl,HB.out⟩;have hX:=hG.out;unfold Lu at hX ⊢;have z0:=Aa hX 0 rfl;have z1:=Aa hX 1 rfl;have z2:=Aa hX 2 rfl;have z3:=Aa hX 3 rfl;simp [results,Tryz.results27,go_sem,z0,z1,z2,z3]
theorem Gq(s:Ls)(f:Nm→Int):G2 s f=(decide (Bq (s.nexts f)=[])&&(DT s&&(decide (CW ⟨s.bars,s.tempos,s.pauses,s.spans⟩=0)&&(s.phrases.all (λp=>p.its.strip.exB)&&s.dances.all (Ch s f (BF s.itsL f)))))):=by
 unfold G2 DT GS;rw [Bool.eq_iff_iff];simp only [Bool.and_eq_true]
 constructor
 ·rintro ⟨⟨a,b⟩,⟨c,d⟩,e,g,h,i,j⟩
  exact ⟨i,⟨⟨a,b,c,d⟩,e⟩,g,h,j⟩
 ·rintro ⟨i,⟨⟨a,b,c,d⟩,e⟩,g,h,j⟩
  exact ⟨⟨a,b⟩,⟨c,d⟩,e,g,h,i,j⟩
theorem PU{s:Ls}{ns:List Int}(h:BV s.strip ns=0)(hr:Bq (s.nexts (AA s.strip))=[])(hx:s.phrases.all (λp=>p.its.strip.exB)=true):PhL s (AA s.strip) (DB (s.nexts (AA s.strip))) (BF s.itsL (AA s.strip)) s.phrases.length:=by
 refine ⟨LM hx hr (FE h),rfl,λj hj=>?_,λp hp=>?_,FE h⟩
 ·have:=MO hr (j:=j) (by rw [EZ];exact hj)
  rw [EZ] at this;exact this
 ·obtain ⟨_,_,_,hk,_⟩:=E2 h
  unfold Sc.kinds at hk;rw [List.all_eq_true] at hk;exact hk p.strip (List.mem_map.2 ⟨p,hp,rfl⟩)
end
section
open Go Go.RowKit
def SC(w:World)(e:Ending)(w':World):Prop:=∃k:Int,0≤k∧k≤1000000000000100∧e=.returned (int i64 k)∧Below w.heap.size w w'
theorem KI(T:Lt)(hI:∀T':Lt,T'.size<T.size→∀(ia:Option Addr) (ic:Nat) (n d:Int) (W:World),T'.mfit→0≤n→n≤1000000000000100→0≤d→d≤21→(T'.len=0∨ia=some ⟨blk ia,off ia,none⟩)→T'.len≤maxLen→T'.At W (blk ia) (off ia)→Calls Tryz.prog 37 #[.slice ia T'.len ic,int i64 n,int i64 d] W (SC W))
  (ia:Option Addr) (ic:Nat) (n d:Int) (W:World) (hJ:T.mfit) (hQ:0≤n) (hS:n≤1000000000000100) (hb:0≤d) (hc:d≤21) (hf:T.len=0∨ia=some ⟨blk ia,off ia,none⟩) (hl:T.len≤maxLen) (hT:T.At W (blk ia) (off ia)):Calls Tryz.prog 37 #[.slice ia T.len ic,int i64 n,int i64 d] W (SC W):=by
 have HI:=qh hI;have HT:=qh hT;have HF:=qh hf;have hU:=qh hJ;clear hI hT hf hJ;generalize hn:T.len=m at *;have HN:=qh hn;clear hn;unfold maxLen at hl;go_enter Tryz.func37,Tryz.ntmps37;go_wp2_with fail;go_loopw [1,7] (λnv iv wr=>∃(i:Nat) (k:Int) (R:Lt),iv=int i64 i∧nv=int i64 k∧i+R.len=m∧0≤k∧k≤1000000000000100∧Hid (R.size≤T.size)∧Hid R.mfit∧Hid (R.At wr (blk ia) (off ia+i*6))∧Hid (Below W.heap.size W wr)) (λ_ iv _=>m+1-(intOf iv).toNat)
 case atStart=>exact ⟨0,n,T,rfl,rfl,by rw [HN.out];omega,hQ,hS,qh (qn _),hU,by simpa [Hid] using HT.out,qh (Below.refl _ _)⟩
 case round =>
  obtain ⟨i,k,R,rfl,rfl,hC,hD,hE,hK,hL,hR,hB⟩:=hrel
  cases R with
  | nil =>
   simp only [Lt.len,Nat.add_zero] at hC;subst hC;go_wp2_with fail
   all_goals (go_ret;exact ⟨k,hD,hE,rfl,hB.out⟩)
  | cons kk n' un ja ic' its ma mc ms r =>
   simp only [Lt.len] at hC;have hi:(i:Int)<(m:Int):=by omega
   have e:=HF.out.resolve_left (by omega);obtain ⟨⟨_,_,_,g4,g5⟩,_,⟨i1,i2,i3⟩,hr⟩:=hR.out;obtain ⟨he,hM,hN⟩:=hL.out;have hO:its.size<T.size:=by have:=hK.out;simp only [Lt.size] at this;omega
   have hA:r.size≤T.size:=by have:=hK.out;simp only [Lt.size] at this;omega
   by_cases hd:20<d
   ·generalize hF:blk ia=bb at *
    generalize hG:off ia=oo at *;subst e;clear hF hG HF i3 hr;by_cases hk:k≤60
    ·have hV:IntKind.i64.wrap (k+1)=k+1:=IntWalk.i64_in _ (by omega)
     have hW:IntKind.i64.wrap (k+1+(ms.length:Int))=k+1+(ms.length:Int):=IntWalk.i64_in _ (by omega);go_wp2_with fail;go_ret;exact ⟨100,by omega,by omega,rfl,hB.out⟩
    ·go_wp2_with fail
     go_ret;exact ⟨k,hD,hE,rfl,hB.out⟩
   ·have C:=HI.out its hO ja ic' (k+1+(ms.length:Int)) (d+1) wr hM
    have HC:=qh C;have HR:=qh hr;have hX:=qh hN;have hY:=qh hA;have hH:=qh (And.intro i1 (And.intro i2 i3));clear C i1 i2 i3 hr hO hM hN hL hA;generalize hF:blk ia=bb at *;generalize hG:off ia=oo at *;subst e;clear hF hG HF;by_cases hk:k≤60
    ·have hV:IntKind.i64.wrap (k+1)=k+1:=IntWalk.i64_in _ (by omega)
     have hW:IntKind.i64.wrap (k+1+(ms.length:Int))=k+1+(ms.length:Int):=IntWalk.i64_in _ (by omega)
     go_wp2_with (go_at_call 37;refine (HC.out (by omega) (by omega) (by omega) (by omega) hH.out.1 hH.out.2.1 hH.out.2.2).mono ?_;rintro e w5 ⟨k5,hZ,ha,rfl,hP⟩);go_roundw
     case rel=>exact ⟨i+1,k5,r,by go_num,rfl,by omega,hZ,ha,hY,hX,qh (by rw [show oo+(i+1)*6=oo+i*6+6 by omega];exact HR.out.below hP),qh (Ad hB.out hP)⟩
     case measure=>simp [intOf];omega
    ·go_wp2_with fail
     go_ret;exact ⟨k,hD,hE,rfl,hB.out⟩
theorem Rf:∀(s:Nat) (T:Lt),T.size≤s→∀(ia:Option Addr) (ic:Nat) (n d:Int) (W:World),T.mfit→0≤n→n≤1000000000000100→0≤d→d≤21→(T.len=0∨ia=some ⟨blk ia,off ia,none⟩)→T.len≤maxLen→T.At W (blk ia) (off ia)→Calls Tryz.prog 37 #[.slice ia T.len ic,int i64 n,int i64 d] W (SC W):=by
 intro s
 induction s with
 | zero=>intro T hs;exact KI T (λT' hA=>absurd hA (by omega))
 | succ s ih=>intro T hs;exact KI T (λT' hA=>ih T' (by omega))
def So(w:World)(e:Ending)(w':World):Prop:=∃b:Bool,e=.returned (.bool b)∧Below w.heap.size w w'
theorem NY(s:Ls)(W:World)(hA:s.At W)(hm:s.mfit)(hl:s.phrases.length≤100000):Calls Tryz.prog 17 #[.slice s.fa s.phrases.length s.fc] W (So W):=by
 have HA:=qh hA;have HM:=qh hm;clear hA hm;generalize hn:s.phrases.length=n at *;have HN:=qh hn;clear hn;generalize hD:s.fa=fa at *;have hH:=qh hD;clear hD;go_enter Tryz.func17,Tryz.ntmps17;go_wp2_with fail;go_loopw [3] (λiv wr=>∃i:Nat,iv=int i64 i∧i≤n∧Hid (Below W.heap.size W wr)) (λiv _=>n+1-(intOf iv).toNat)
 case atStart=>exact ⟨0,rfl,Nat.zero_le _,qh (Below.refl _ _)⟩
 case round =>
  obtain ⟨i,rfl,hL,hB⟩:=hrel;by_cases hI:i<n
  ·have hi:(i:Int)<(n:Int):=by omega
   obtain ⟨p,hp⟩:∃p,s.phrases[i]?=some p:=⟨_,qg (by rw [HN.out];exact hI)⟩;have hC:=HA.out.below hB.out;obtain ⟨c0,c1⟩:=Cm hC.phrases hp;obtain ⟨i1,i2,i3⟩:=Df hC.phrases hp;have hE:=hC.pform.resolve_left (λe=>by rw [e] at hp;cases hp);have C:=Rf _ p.its (qn _) p.ia p.ic 0 0 wr (HM.out p (List.mem_of_getElem? hp)) (by omega) (by omega) (by omega) (by omega) i1 i2 i3;unfold Ph.val at c1;rw [hH.out] at c0 c1 hE;have HC:=qh C;clear hp hC i1 i2 i3 C c0;generalize hJ:blk fa=fb at *;generalize hK:off fa=fo at *;subst hE;clear hJ hK
   go_wp2_with (go_at_call 37;refine HC.out.mono ?_;rintro e w5 ⟨k5,hM,hN,rfl,hF⟩;have hG:=qh hF;clear hF)
   ·go_ret
    exact ⟨false,rfl,Ad hB.out hG.out⟩
   ·go_roundw
    case rel=>exact ⟨i+1,by go_num,by omega,qh (Ad hB.out hG.out)⟩
    case measure=>simp [intOf];omega
  ·have:i=n:=by omega
   subst this;have hz:¬(i:Int)<(i:Int):=by omega
   go_wp2_with fail;go_ret;exact ⟨true,rfl,hB.out⟩
def Sz(s:Ls)(w:World)(e:Ending)(w':World):Prop:=∃b:Bool,e=.returned (.bool b)∧(b=true→s.phrases.length≤12∧s.roles.length≤70∧s.dances.length≤300)∧Below w.heap.size w w'
theorem TY(s:Ls)(w:World)(hA:s.At w)(hm:s.mfit):Calls Tryz.prog 6 #[s.val] w (Sz s w):=by
 obtain ⟨W,hW,hB,hD,sW⟩:=Ag w s.cells 30;have y10:W.cell? ⟨w.heap.size,10,none⟩=some (.slice s.fa s.phrases.length s.fc):=Aa hB 10 rfl;have y7:W.cell? ⟨w.heap.size,7,none⟩=some (.slice s.ta s.tempos.length s.tc):=Aa hB 7 rfl;have y8:W.cell? ⟨w.heap.size,8,none⟩=some (.slice s.ua s.pauses.length s.uc):=Aa hB 8 rfl;have y9:W.cell? ⟨w.heap.size,9,none⟩=some (.slice s.sa s.spans.length s.sc):=Aa hB 9 rfl;have y6:W.cell? ⟨w.heap.size,6,none⟩=some (.slice s.ra s.roles.length s.rc):=Aa hB 6 rfl;have y11:W.cell? ⟨w.heap.size,11,none⟩=some (.slice s.da s.dances.length s.dc):=Aa hB 11 rfl;have HS:Hid (s.phrases.length≤12→Calls Tryz.prog 17 #[.slice s.fa s.phrases.length s.fc] W (So W)):=qh (λh=>NY s W (hA.below hD) hm (by omega));have hC:Hid (Sz s w (.returned (.bool false)) W):=qh ⟨false,rfl,λh=>(by cases h),hD⟩;have hF:=qh hD;have hv:s.val=.agg s.cells:=rfl;rw [hv];unfold Ls.cells at hW ⊢;clear hA hm hB hD sW hv;by_cases q0:s.phrases.length≤12
 ·skip
  by_cases q1:s.tempos.length≤100
  ·skip
   by_cases q2:s.pauses.length≤100
   ·skip
    by_cases q3:s.spans.length≤300
    ·skip
     by_cases q4:s.roles.length≤70
     ·skip
      by_cases q5:s.dances.length≤300
      ·skip
       have HC:=qh (HS.out q0);have hE:Hid (∀b V,Below W.heap.size W V→Sz s w (.returned (.bool b)) V):=qh (λb V h=>⟨b,rfl,λ_=>⟨q0,q4,q5⟩,Ad hF.out h⟩);clear HS;go_enter Tryz.func6,Tryz.ntmps6
       go_wp2_with (go_at_call 17;refine HC.out.mono ?_;rintro e V ⟨b,rfl,hb⟩;have HB:=qh hb;clear hb);go_ret;exact hE.out b _ HB.out
      ·have r5:300<s.dances.length:=by omega
       clear HS;go_enter Tryz.func6,Tryz.ntmps6;go_wp2_with fail;go_ret;exact hC.out
     ·have r4:70<s.roles.length:=by omega
      clear HS;go_enter Tryz.func6,Tryz.ntmps6;go_wp2_with fail;go_ret;exact hC.out
    ·have r3:300<s.spans.length:=by omega
     clear HS;go_enter Tryz.func6,Tryz.ntmps6;go_wp2_with fail;go_ret;exact hC.out
   ·have r2:100<s.pauses.length:=by omega
    clear HS;go_enter Tryz.func6,Tryz.ntmps6;go_wp2_with fail;go_ret;exact hC.out
  ·have r1:100<s.tempos.length:=by omega
   clear HS;go_enter Tryz.func6,Tryz.ntmps6;go_wp2_with fail;go_ret;exact hC.out
 ·have r0:12<s.phrases.length:=by omega
  clear HS;go_enter Tryz.func6,Tryz.ntmps6;go_wp2_with fail;go_ret;exact hC.out
end
section
open Go Go.RowKit Go.Shelf
theorem Mk(w:World):Calls Tryz.prog 34 #[] w λe w'=>e=.returned (.agg #[int i64 1,int i64 1,int i64 1,int i64 1,int i64 0,int i64 2,sv [],int i64 0,int i64 0,int i64 1,int i64 1,int i64 1])∧Below w.heap.size w w':=by
 go_enter Tryz.func34,Tryz.ntmps34;go_wp2_with fail;refine ⟨rfl,.agg #[int i64 1,int i64 1,int i64 1,int i64 1,int i64 0,int i64 2,sv [],int i64 0,int i64 0,int i64 1,int i64 1,int i64 1],?_,rfl,?_⟩
 ·have hX:=heap_alloc_new w (.cells #[int i64 1,int i64 1,int i64 1,int i64 1,int i64 0,int i64 2,sv [],int i64 0,int i64 0,int i64 1,int i64 1,int i64 1] 77)
  have y0:=Aa hX 0 rfl;have y1:=Aa hX 1 rfl;have y2:=Aa hX 2 rfl;have y3:=Aa hX 3 rfl;have y4:=Aa hX 4 rfl;have y5:=Aa hX 5 rfl;have y6:=Aa hX 6 rfl;have y7:=Aa hX 7 rfl;have y8:=Aa hX 8 rfl;have y9:=Aa hX 9 rfl;have y10:=Aa hX 10 rfl;have y11:=Aa hX 11 rfl;simp [results,Tryz.results34,go_sem,y0,y1,y2,y3,y4,y5,y6,y7,y8,y9,y10,y11]
 ·exact (Below.refl _ _).alloc (qn _) _
def Vj(k:Nat):Nm:=if k=0 then [112] else [113]
theorem GH(w:World):Calls Tryz.prog 15 #[int i64 0] w λe w'=>e=.returned (.agg #[int i64 4,int i64 0,sv [112],int i64 0,.slice none 0 0,.slice none 0 0])∧Below w.heap.size w w':=by
 obtain ⟨W1,x1,g1,b1,s1⟩:=Ag w #[int i64 0,int i64 0,sv [],int i64 0,.slice none 0 0,.slice none 0 0] 48;obtain ⟨W2,x2,g2,b2,s2⟩:=Ag W1 #[sv [112],sv [113]] 9;have hX:=Ah b2 g1;have z0:=Aa g2 0 rfl;have z1:=Aa g2 1 rfl;have y0:=Aa hX 0 rfl;have y1:=Aa hX 1 rfl;have y2:=Aa hX 2 rfl;have y3:=Aa hX 3 rfl;have y4:=Aa hX 4 rfl;have y5:=Aa hX 5 rfl;obtain ⟨W3,hC,gW3,bW3⟩:=AC (cs:=#[int i64 4,int i64 0,sv [112],int i64 0,.slice none 0 0,.slice none 0 0]) hX (Ad b1 b2) (qn _);have hA:(#[int i64 4,int i64 0,sv [112],int i64 0,.slice none 0 0,.slice none 0 0]:Array Value).all (·.oneCell')=true:=by simp [Value.oneCell']
 have HX:=qh hX;have HG:=qh gW3;have HB:=qh bW3;have hD:=qh hC;have hB:=qh hA;clear hX g1 g2 b1 b2 s1 s2 gW3 bW3 hC hA y0 y1 y2 y3 y4 y5;go_enter Tryz.func15,Tryz.ntmps15
 go_wp2_with (refine wpList_store_row rfl 48 _ _ rfl w.heap.size #[int i64 4,int i64 0,sv [112],int i64 0,.slice none 0 0,.slice none 0 0] rfl rfl 48 _ HX.out (by kernel_rfl) rfl hB.out ?_;rw [hD.out]);refine ⟨rfl,.agg #[int i64 4,int i64 0,sv [112],int i64 0,.slice none 0 0,.slice none 0 0],?_,rfl,HB.out⟩;have hX:=HG.out;have y0:=Aa hX 0 rfl;have y1:=Aa hX 1 rfl;have y2:=Aa hX 2 rfl;have y3:=Aa hX 3 rfl;have y4:=Aa hX 4 rfl;have y5:=Aa hX 5 rfl;simp [results,Tryz.results15,go_sem,y0,y1,y2,y3,y4,y5]
theorem Kb(w:World):Calls Tryz.prog 15 #[int i64 1] w λe w'=>e=.returned (.agg #[int i64 4,int i64 0,sv [113],int i64 1,.slice none 0 0,.slice none 0 0])∧Below w.heap.size w w':=by
 obtain ⟨W1,x1,g1,b1,s1⟩:=Ag w #[int i64 0,int i64 0,sv [],int i64 0,.slice none 0 0,.slice none 0 0] 48;obtain ⟨W2,x2,g2,b2,s2⟩:=Ag W1 #[sv [112],sv [113]] 9;have hX:=Ah b2 g1;have z0:=Aa g2 0 rfl;have z1:=Aa g2 1 rfl;have y0:=Aa hX 0 rfl;have y1:=Aa hX 1 rfl;have y2:=Aa hX 2 rfl;have y3:=Aa hX 3 rfl;have y4:=Aa hX 4 rfl;have y5:=Aa hX 5 rfl;obtain ⟨W3,hC,gW3,bW3⟩:=AC (cs:=#[int i64 4,int i64 0,sv [113],int i64 1,.slice none 0 0,.slice none 0 0]) hX (Ad b1 b2) (qn _);have hA:(#[int i64 4,int i64 0,sv [113],int i64 1,.slice none 0 0,.slice none 0 0]:Array Value).all (·.oneCell')=true:=by simp [Value.oneCell']
 have HX:=qh hX;have HG:=qh gW3;have HB:=qh bW3;have hD:=qh hC;have hB:=qh hA;clear hX g1 g2 b1 b2 s1 s2 gW3 bW3 hC hA y0 y1 y2 y3 y4 y5;go_enter Tryz.func15,Tryz.ntmps15
 go_wp2_with (refine wpList_store_row rfl 48 _ _ rfl w.heap.size #[int i64 4,int i64 0,sv [113],int i64 1,.slice none 0 0,.slice none 0 0] rfl rfl 48 _ HX.out (by kernel_rfl) rfl hB.out ?_;rw [hD.out]);refine ⟨rfl,.agg #[int i64 4,int i64 0,sv [113],int i64 1,.slice none 0 0,.slice none 0 0],?_,rfl,HB.out⟩;have hX:=HG.out;have y0:=Aa hX 0 rfl;have y1:=Aa hX 1 rfl;have y2:=Aa hX 2 rfl;have y3:=Aa hX 3 rfl;have y4:=Aa hX 4 rfl;have y5:=Aa hX 5 rfl;simp [results,Tryz.results15,go_sem,y0,y1,y2,y3,y4,y5]
structure Sm18(R T M U I0 I1 F D:Nat)(W:World):Prop where
 hR:W.heap[R]?=some (.cells #[sv [97],int i64 20,int i64 10,int i64 7] 60 (0,0))
 hT:W.heap[T]?=some (.cells #[int i64 0,int i64 1000,int i64 0] 80 (0,0))
 hM:W.heap[M]?=some (.cells #[int i64 1,int i64 1,int i64 1,int i64 1,int i64 0,int i64 2,sv [],int i64 0,int i64 0,int i64 1,int i64 1,int i64 1] 77 (0,0))
 hU:W.heap[U]?=some (.cells #[int i64 4,int i64 0,sv [112],int i64 0,.slice none 0 0,.slice none 0 0] 48 (0,0))
 hI0:W.heap[I0]?=some (.cells #[int i64 1,int i64 0,sv [],int i64 0,.slice none 0 0,.slice (some ⟨M,0,none⟩) 1 1] 48 (0,0))
 hI1:W.heap[I1]?=some (.cells #[int i64 2,int i64 2,sv [],int i64 0,.slice (some ⟨U,0,none⟩) 1 1,.slice none 0 0] 48 (0,0))
 hF:W.heap[F]?=some (.cells #[sv [112],.slice (some ⟨I0,0,none⟩) 1 1,sv [113],.slice (some ⟨I1,0,none⟩) 1 1] 51 (0,0))
 hD:W.heap[D]?=some (.cells #[sv [97],int i64 0,sv [113],int i64 1,int i64 1,.bool false] 53 (0,0))
theorem JX{W:World}{b i:Nat}{cs:Array Value}{t:TypeId}{v:Value}(h:W.heap[b]?=some (.cells cs t (0,0)))(hv:cs[i]?=some v):W.setCell ⟨b,i,none⟩ v=W:=by
 have e:(W.setCell ⟨b,i,none⟩ v).heap=W.heap:=by
  apply Array.ext_getElem?;intro k;by_cases hk:k=b
  ·subst hk
   rw [BN v h,h]
   congr 2
   apply Array.ext_getElem?;intro j;rw [Array.getElem?_setIfInBounds]
   split
   ·rename_i hA
    subst hA;rw [hv]
    split
    ·rfl
    ·rename_i hn
     rw [Array.getElem?_eq_none (by omega)] at hv;cases hv
   ·rfl
  ·exact Ak v hk
 cases W;simp only [World.setCell] at e ⊢;rw [e]
theorem DM(w:World):Calls Tryz.prog 14 #[] w λe w'=>∃R T M U I0 I1 F D:Nat,e=.returned (.agg #[sv [119],int i64 20,int i64 10,int i64 3,int i64 2,int i64 1,.slice (some ⟨R,0,none⟩) 1 1,.slice (some ⟨T,0,none⟩) 1 1,.slice none 0 0,.slice none 0 0,.slice (some ⟨F,0,none⟩) 2 2,.slice (some ⟨D,0,none⟩) 1 1])∧Sm18 R T M U I0 I1 F D w'∧(∀b∈[R,T,M,U,I0,I1,F,D],w.heap.size≤b)∧[R,T,M,U,I0,I1,F,D].Nodup∧Below w.heap.size w w':=by
 obtain ⟨A0,xA0,gA0,bA0,sA0⟩:=Ag w CS 30;have GA0:=qh gA0;have BA0:=qh bA0;have hC:∀W2,Below A0.heap.size A0 W2→W2.heap[w.heap.size]?=some (.cells CS 30 (0,0)):=λW2 hb=>Ah hb gA0
 have hD:=qh hC;clear gA0 bA0 sA0 hC;unfold CS at xA0;have st0:True:=trivial;go_enter Tryz.func14,Tryz.ntmps14
 go_wp2_with (first
  | (have q:=st0;go_at_call 34;refine (Mk _).mono ?_;rintro e V1 ⟨rfl,hA⟩;have BV1:=qh hA;clear hA q st0;have st1:True:=trivial;obtain ⟨A1,xA1,gA1,bA1,sA1⟩:=Ag V1 #[int i64 1,int i64 1,int i64 1,int i64 1,int i64 0,int i64 2,sv [],int i64 0,int i64 0,int i64 1,int i64 1,int i64 1] 77;have GA1:=qh gA1;have BA1:=qh bA1;clear gA1 bA1 sA1;obtain ⟨A2,xA2,gA2,bA2,sA2⟩:=Ag A1 #[int i64 1,int i64 0,sv [],int i64 0,.slice none 0 0,.slice (some ⟨V1.heap.size,0,none⟩) 1 1] 48;have GA2:=qh gA2;have BA2:=qh bA2;clear gA2 bA2 sA2;have hE:=qh (show ∀V,Below A2.heap.size A2 V→V.heap[A1.heap.size]?=some (.cells #[int i64 1,int i64 0,sv [],int i64 0,.slice none 0 0,.slice (some ⟨V1.heap.size,0,none⟩) 1 1] 48 (0,0)) from λV h=>Ah h GA2.out))
  | (have q:=st1;go_at_call 15;refine (GH _).mono ?_;rintro e V2 ⟨rfl,hA⟩;have BV2:=qh hA;clear hA q st1;have st2:True:=trivial;obtain ⟨A3,xA3,gA3,bA3,sA3⟩:=Ag V2 #[int i64 4,int i64 0,sv [112],int i64 0,.slice none 0 0,.slice none 0 0] 48;have GA3:=qh gA3;have BA3:=qh bA3;clear gA3 bA3 sA3;obtain ⟨A4,xA4,gA4,bA4,sA4⟩:=Ag A3 #[int i64 2,int i64 2,sv [],int i64 0,.slice (some ⟨V2.heap.size,0,none⟩) 1 1,.slice none 0 0] 48;have GA4:=qh gA4;have BA4:=qh bA4;clear gA4 bA4 sA4;have c4:A4.cell? ⟨A3.heap.size,5,none⟩=some (.slice none 0 0):=(Aa GA4.out 5 rfl);have f4:A4.frozen? ⟨A3.heap.size,5,none⟩=false:=(show FreeB A4 A3.heap.size from ⟨_,_,GA4.out⟩).free 5;have e4:A4.setCell ⟨A3.heap.size,5,none⟩ (.slice none 0 0)=A4:=(JX (i:=5) GA4.out rfl);obtain ⟨A5,xA5,gA5,bA5,sA5⟩:=Ag A4 #[sv [97],int i64 20,int i64 10,int i64 7] 60;have GA5:=qh gA5;have BA5:=qh bA5;clear gA5 bA5 sA5;obtain ⟨A6,xA6,gA6,bA6,sA6⟩:=Ag A5 #[int i64 0,int i64 1000,int i64 0] 80;have GA6:=qh gA6;have BA6:=qh bA6;clear gA6 bA6 sA6;have hF:=qh (hE.out A6 (Ad BV2.out (Ad BA3.out (Ad BA4.out (Ad BA5.out BA6.out))))))
  | (have q:=st2;clear q;refine wpList_load_row rfl 48 _ rfl A1.heap.size rfl 48 #[int i64 1,int i64 0,sv [],int i64 0,.slice none 0 0,.slice (some ⟨V1.heap.size,0,none⟩) 1 1] (0,0) _ hF.out Tryz.underlying48 rfl (by kernel_rfl) ?_;simp only [Act.put,qD,qE,qF];clear st2;have st3:True:=trivial;obtain ⟨A7,xA7,gA7,bA7,sA7⟩:=Ag A6 #[int i64 1,int i64 0,sv [],int i64 0,.slice none 0 0,.slice (some ⟨V1.heap.size,0,none⟩) 1 1] 48;have GA7:=qh gA7;have BA7:=qh bA7;clear gA7 bA7 sA7;have hG:=qh (Ah (Ad BA5.out (Ad BA6.out BA7.out)) GA4.out))
  | (have q:=st3;clear q;refine wpList_load_row rfl 48 _ rfl A3.heap.size rfl 48 #[int i64 2,int i64 2,sv [],int i64 0,.slice (some ⟨V2.heap.size,0,none⟩) 1 1,.slice none 0 0] (0,0) _ hG.out Tryz.underlying48 rfl (by kernel_rfl) ?_;simp only [Act.put,qD,qE,qF];clear st3;have st4:True:=trivial;obtain ⟨A8,xA8,gA8,bA8,sA8⟩:=Ag A7 #[int i64 2,int i64 2,sv [],int i64 0,.slice (some ⟨V2.heap.size,0,none⟩) 1 1,.slice none 0 0] 48;have GA8:=qh gA8;have BA8:=qh bA8;clear gA8 bA8 sA8;obtain ⟨A9,xA9,gA9,bA9,sA9⟩:=Ag A8 #[sv [112],.slice (some ⟨A6.heap.size,0,none⟩) 1 1,sv [113],.slice (some ⟨A7.heap.size,0,none⟩) 1 1] 51;have GA9:=qh gA9;have BA9:=qh bA9;clear gA9 bA9 sA9;obtain ⟨A10,xA10,gA10,bA10,sA10⟩:=Ag A9 #[sv [97],int i64 0,sv [113],int i64 1,int i64 1,.bool false] 53;have GA10:=qh gA10;have BA10:=qh bA10;clear gA10 bA10 sA10)
  | (have q:=st4;clear q;refine wpList_store_row rfl 30 _ _ rfl w.heap.size #[sv [119],int i64 20,int i64 10,int i64 3,int i64 2,int i64 1,.slice (some ⟨A4.heap.size,0,none⟩) 1 1,.slice (some ⟨A5.heap.size,0,none⟩) 1 1,.slice none 0 0,.slice none 0 0,.slice (some ⟨A8.heap.size,0,none⟩) 2 2,.slice (some ⟨A9.heap.size,0,none⟩) 1 1] rfl rfl 30 _ (hD.out A10 (Ad BV1.out (Ad BA1.out (Ad BA2.out (Ad BV2.out (Ad BA3.out (Ad BA4.out (Ad BA5.out (Ad BA6.out (Ad BA7.out (Ad BA8.out (Ad BA9.out BA10.out)))))))))))) (by kernel_rfl) rfl (by simp [Value.oneCell']) ?_;obtain ⟨W3,hB,gW3,bW3⟩:=AC (cs:=#[sv [119],int i64 20,int i64 10,int i64 3,int i64 2,int i64 1,.slice (some ⟨A4.heap.size,0,none⟩) 1 1,.slice (some ⟨A5.heap.size,0,none⟩) 1 1,.slice none 0 0,.slice none 0 0,.slice (some ⟨A8.heap.size,0,none⟩) 2 2,.slice (some ⟨A9.heap.size,0,none⟩) 1 1]) (hD.out A10 (Ad BV1.out (Ad BA1.out (Ad BA2.out (Ad BV2.out (Ad BA3.out (Ad BA4.out (Ad BA5.out (Ad BA6.out (Ad BA7.out (Ad BA8.out (Ad BA9.out BA10.out)))))))))))) (Ad BA0.out (Ad BV1.out (Ad BA1.out (Ad BA2.out (Ad BV2.out (Ad BA3.out (Ad BA4.out (Ad BA5.out (Ad BA6.out (Ad BA7.out (Ad BA8.out (Ad BA9.out BA10.out)))))))))))) (qn _);rw [hB];have hH:=qh hB;have hI:=qh gW3;have hJ:=qh bW3;clear hB gW3 bW3 st4))
 have o3:∀c,c≠w.heap.size→W3.heap[c]?=A10.heap[c]?:=λc hc=>by
  rw [← hH.out];simp only [World.setRow];rw [Array.getElem?_modify,if_neg (λe=>hc e.symm)]
 have q0:=(qs.1 GA0.out).1;have z1:=(qs.1 GA1.out).1;have z2:=(qs.1 GA2.out).1;have z3:=(qs.1 GA3.out).1;have z4:=(qs.1 GA4.out).1;have z5:=(qs.1 GA5.out).1;have z6:=(qs.1 GA6.out).1;have z7:=(qs.1 GA7.out).1;have z8:=(qs.1 GA8.out).1;have z9:=(qs.1 GA9.out).1;have q1:=BV1.out.size;have q2:=BV2.out.size;refine ⟨rfl,.agg #[sv [119],int i64 20,int i64 10,int i64 3,int i64 2,int i64 1,.slice (some ⟨A4.heap.size,0,none⟩) 1 1,.slice (some ⟨A5.heap.size,0,none⟩) 1 1,.slice none 0 0,.slice none 0 0,.slice (some ⟨A8.heap.size,0,none⟩) 2 2,.slice (some ⟨A9.heap.size,0,none⟩) 1 1],?_,A4.heap.size,A5.heap.size,V1.heap.size,V2.heap.size,A6.heap.size,A7.heap.size,A8.heap.size,A9.heap.size,rfl,⟨(o3 _ (by omega)).trans (Ah (Ad BA6.out (Ad BA7.out (Ad BA8.out (Ad BA9.out BA10.out)))) GA5.out),(o3 _ (by omega)).trans (Ah (Ad BA7.out (Ad BA8.out (Ad BA9.out BA10.out))) GA6.out),(o3 _ (by omega)).trans (Ah (Ad BA2.out (Ad BV2.out (Ad BA3.out (Ad BA4.out (Ad BA5.out (Ad BA6.out (Ad BA7.out (Ad BA8.out (Ad BA9.out BA10.out))))))))) GA1.out),(o3 _ (by omega)).trans (Ah (Ad BA4.out (Ad BA5.out (Ad BA6.out (Ad BA7.out (Ad BA8.out (Ad BA9.out BA10.out)))))) GA3.out),(o3 _ (by omega)).trans (Ah (Ad BA8.out (Ad BA9.out BA10.out)) GA7.out),(o3 _ (by omega)).trans (Ah (Ad BA9.out BA10.out) GA8.out),(o3 _ (by omega)).trans (Ah BA10.out GA9.out),(o3 _ (by omega)).trans GA10.out⟩,?_,?_,hJ.out⟩
 ·clear o3 z1 z2 z3 z4 z5 z6 z7 z8 z9 q0 q1 q2 xA0 xA1 xA2 xA3 xA4 xA5 xA6 xA7 xA8 xA9 xA10
  have hX:=hI.out;have y0:=Aa hX 0 rfl;have y1:=Aa hX 1 rfl;have y2:=Aa hX 2 rfl;have y3:=Aa hX 3 rfl;have y4:=Aa hX 4 rfl;have y5:=Aa hX 5 rfl;have y6:=Aa hX 6 rfl;have y7:=Aa hX 7 rfl;have y8:=Aa hX 8 rfl;have y9:=Aa hX 9 rfl;have y10:=Aa hX 10 rfl;have y11:=Aa hX 11 rfl;clear hX;simp [results,Tryz.results14,go_sem,y0,y1,y2,y3,y4,y5,y6,y7,y8,y9,y10,y11]
 ·intro b hb
  simp only [List.mem_cons,List.mem_nil_iff,or_false] at hb;omega
 ·simp only [List.nodup_cons,List.mem_cons,List.mem_nil_iff,or_false,not_or,List.nodup_nil,and_true,not_false_eq_true]
  omega
def Vr:Mov:=⟨1,1,1,1,0,2,[],0,1,1,1⟩
def Ef(t0 t1:Int)(R T F D:Nat)(p0 p1:Ph)(bar:Int):Ls:=⟨[119],20,10,3,t0,t1,at0 R,1,[⟨[97],20,10,7⟩],at0 T,1,[⟨0,1000,0⟩],none,0,[],none,0,[],at0 F,2,[p0,p1],at0 D,1,[⟨[97],[113],bar,false⟩]⟩
def Oc(k:Nat)(r:Lt):Lt:=.cons 4 0 (Vj k) none 0 .nil none 0 [] r
def phP(I0 M:Nat):Ph:=⟨[112],at0 I0,1,.cons 1 0 [] none 0 .nil (at0 M) 1 [Vr] .nil⟩
def phQ(I1 U:Nat):Ph:=⟨[113],at0 I1,1,.cons 2 2 [] (at0 U) 1 (Oc 0 .nil) none 0 [] .nil⟩
def Dg(R T M U I0 I1 F D:Nat):Ls:=Ef 2 1 R T F D (phP I0 M) (phQ I1 U) 1
def Dh:List Int:=[0,0,0,0,0,1]
theorem P8{W:World}{R:Nat}(hR:W.heap[R]?=some (.cells #[sv [97],int i64 20,int i64 10,int i64 7] 60 (0,0))):IsRow LD 4 W (.slice (at0 R) 1 1) [⟨[97],20,10,7⟩]:=by
  refine ⟨at0 R,1,rfl,by decide,Or.inr ⟨R,0,rfl,λi x hi j v hv=>?_,(qs.1 hR).1⟩⟩
  match i,hi with
  | 0, hi =>
    simp at hi;subst hi
    match j,hv with
    | 0,hv=>cases hv;exact Aa hR 0 rfl
    | 1,hv=>cases hv;exact Aa hR 1 rfl
    | 2,hv=>cases hv;exact Aa hR 2 rfl
    | 3,hv=>cases hv;exact Aa hR 3 rfl
theorem N8{W:World}{T:Nat}(hT:W.heap[T]?=some (.cells #[int i64 0,int i64 1000,int i64 0] 80 (0,0))):IsRow DP 3 W (.slice (at0 T) 1 1) [⟨0,1000,0⟩]:=by
  refine ⟨at0 T,1,rfl,by decide,Or.inr ⟨T,0,rfl,λi x hi j v hv=>?_,(qs.1 hT).1⟩⟩
  match i,hi with
  | 0, hi =>
    simp at hi;subst hi
    match j,hv with
    | 0,hv=>cases hv;exact Aa hT 0 rfl
    | 1,hv=>cases hv;exact Aa hT 1 rfl
    | 2,hv=>cases hv;exact Aa hT 2 rfl
theorem Mz{W:World}{R T F D:Nat}{t0 t1 bar:Int}{p0 p1:Ph}(hR:W.heap[R]?=some (.cells #[sv [97],int i64 20,int i64 10,int i64 7] 60 (0,0)))(hT:W.heap[T]?=some (.cells #[int i64 0,int i64 1000,int i64 0] 80 (0,0)))
    (hF:W.heap[F]?=some (.cells #[sv [112],p0.val,sv [113],p1.val] 51 (0,0))) (hD:W.heap[D]?=some (.cells #[sv [97],int i64 0,sv [113],int i64 1,int i64 bar,.bool false] 53 (0,0)))
    (n0:p0.name=[112]) (n1:p1.name=[113]) (h0:p0.Its W) (h1:p1.Its W):(Ef t0 t1 R T F D p0 p1 bar).At W :=
  ⟨P8 hR,N8 hT,IsRow.nil,IsRow.nil,Or.inr rfl,(by decide:(2:Nat)≤maxLen),⟨⟨by rw [n0];exact Aa hF 0 rfl,Aa hF 1 rfl,h0⟩,⟨by rw [n1];exact Aa hF 2 rfl,Aa hF 3 rfl,h1⟩,trivial⟩,Or.inr rfl,(by decide:(1:Nat)≤maxLen),
   ⟨Aa hD 0 rfl,Aa hD 2 rfl,Aa hD 4 rfl,Aa hD 5 rfl⟩,trivial⟩
theorem JU{W:World}{I0 M:Nat}(hI:W.heap[I0]?=some (.cells #[int i64 1,int i64 0,sv [],int i64 0,.slice none 0 0,.slice (some ⟨M,0,none⟩) 1 1] 48 (0,0)))(hM:W.heap[M]?=some (.cells #[int i64 1,int i64 1,int i64 1,int i64 1,int i64 0,int i64 2,sv [],int i64 0,int i64 0,int i64 1,int i64 1,int i64 1] 77 (0,0))) :
    (phP I0 M).Its W∧NsAt W (phP I0 M).refsL [0,0]:=by
  have m1:(1:Nat)≤maxLen:=by decide
  refine ⟨⟨Or.inr rfl,m1,?_⟩,?_⟩
  · refine ⟨⟨Aa hI 0 rfl, Aa hI 1 rfl, Aa hI 2 rfl, Aa hI 4 rfl, Aa hI 5 rfl⟩, ⟨Or.inr rfl, m1, ?_⟩, ⟨Or.inl rfl, Nat.zero_le _, trivial⟩, trivial⟩
    exact ⟨⟨Aa hM 0 rfl,Aa hM 1 rfl,Aa hM 2 rfl,Aa hM 3 rfl,Aa hM 4 rfl,Aa hM 5 rfl,Aa hM 6 rfl,Aa hM 8 rfl,Aa hM 9 rfl,Aa hM 10 rfl,Aa hM 11 rfl⟩,trivial⟩
  · exact ⟨Aa hI 3 rfl,Aa hM 7 rfl,trivial⟩
theorem Si{W:World}{U:Nat}(hU:W.heap[U]?=some (.cells #[int i64 4,int i64 0,sv [112],int i64 0,.slice none 0 0,.slice none 0 0] 48 (0,0))):(Oc 0 .nil).At W U 0∧NsAt W ((Oc 0 .nil).refsL U 0) [0] :=
  ⟨⟨⟨Aa hU 0 rfl,Aa hU 1 rfl,Aa hU 2 rfl,Aa hU 4 rfl,Aa hU 5 rfl⟩,⟨Or.inl rfl,Nat.zero_le _,trivial⟩,⟨Or.inl rfl,Nat.zero_le _,trivial⟩,trivial⟩,⟨Aa hU 3 rfl,trivial⟩⟩
theorem JV{W:World}{I1 U:Nat}(hI:W.heap[I1]?=some (.cells #[int i64 2,int i64 2,sv [],int i64 0,.slice (some ⟨U,0,none⟩) 1 1,.slice none 0 0] 48 (0,0)))(hU:W.heap[U]?=some (.cells #[int i64 4,int i64 0,sv [112],int i64 0,.slice none 0 0,.slice none 0 0] 48 (0,0))) :
    (phQ I1 U).Its W∧NsAt W (phQ I1 U).refsL [0,0]:=by
  have m1:(1:Nat)≤maxLen:=by decide
  obtain ⟨u1,u2⟩:=Si hU;refine ⟨⟨Or.inr rfl,m1,?_⟩,?_⟩
  · exact ⟨⟨Aa hI 0 rfl,Aa hI 1 rfl,Aa hI 2 rfl,Aa hI 4 rfl,Aa hI 5 rfl⟩,⟨Or.inl rfl,Nat.zero_le _,trivial⟩,⟨Or.inr rfl,m1,u1⟩,trivial⟩
  · exact ⟨Aa hI 3 rfl,u2.1,trivial⟩
theorem K6{R T M U I0 I1 F D:Nat}{W:World}(h:Sm18 R T M U I0 I1 F D W):(Dg R T M U I0 I1 F D).At W∧NsAt W (Dg R T M U I0 I1 F D).refs Dh:=by
  obtain ⟨a1,a2⟩:=JU h.hI0 h.hM;obtain ⟨b1,b2⟩:=JV h.hI1 h.hU;refine ⟨Mz h.hR h.hT h.hF h.hD rfl rfl a1 b1,?_⟩;obtain ⟨x1,x2,_⟩:=a2;obtain ⟨y1,y2,_⟩:=b2;exact ⟨x1,x2,y1,y2,Aa h.hD 1 rfl,Aa h.hD 3 rfl,trivial⟩
theorem O0(R T M U I0 I1 F D:Nat):Eh (Dg R T M U I0 I1 F D) Dh 1=(2,0):=by kernel_rfl
theorem O1(R T M U I0 I1 F D:Nat):Eh (Dg R T M U I0 I1 F D) Dh (-1)=(0,1):=by kernel_rfl
theorem O2(R T M U I0 I1 F D:Nat):Cj (Dg R T M U I0 I1 F D) Dh=[]:=by kernel_rfl
theorem QB(R T M U I0 I1 F D:Nat):BV (Dg R T M U I0 I1 F D).strip Dh=0:=by kernel_rfl
theorem Mj(R T M U I0 I1 F D:Nat):AE (Dg R T M U I0 I1 F D) Dh=0:=by kernel_rfl
theorem KT(R T M U I0 I1 F D:Nat):AE (Ef 0 0 R T F D (phP I0 M) (phQ I1 U) 1) Dh=180:=by kernel_rfl
theorem JO(R T M U I0 I1 F D:Nat):AE (Ef 2 1 R T F D (phP I0 M) (phQ I1 U) 2) Dh=180:=by kernel_rfl
def rgP(X0:Nat):Ph:=⟨[112],at0 X0,1,Oc 1 .nil⟩
def rgQ(X1:Nat):Ph:=⟨[113],at0 X1,2,Oc 1 (Oc 0 .nil)⟩
def Js:List Int:=[1,1,0,0,1]
theorem ND(R T F D X0 X1:Nat):Cj (Ef 2 1 R T F D (rgP X0) (rgQ X1) 1) Js=[0,1]:=by kernel_rfl
theorem Qe(R T F D X0 X1:Nat):BV (Ef 2 1 R T F D (rgP X0) (rgQ X1) 1).strip Js=0:=by kernel_rfl
theorem M5(R T F D X0 X1:Nat):AE (Ef 2 1 R T F D (rgP X0) (rgQ X1) 1) Js=180:=by kernel_rfl
end
section
open Go Go.RowKit
theorem IntRow.parts{W:World}{v:Value}{l:List Int}(h:IntRow W v l):∃g ao cap,v=.slice ao l.length cap∧(l=[]∨ao=some ⟨g,0,none⟩)∧l.length≤maxLen∧∀(j:Nat) (x:Int),l[j]?=some x→W.cell? ⟨g,j,none⟩=some (int i64 x):=by
 rcases h with ⟨rfl,rfl⟩|⟨g,cap,rfl,_,h3,h4,h5⟩
 ·exact ⟨0,none,0,rfl,Or.inl rfl,Nat.zero_le _,λj x hj=>by simp at hj⟩
 ·exact ⟨g,_,cap,rfl,Or.inr rfl,Nat.le_trans h3 h4,h5⟩
theorem IntRow.below{W V:World}{v:Value}{l:List Int}(h:IntRow W v l)(hb:Below W.heap.size W V):IntRow V v l:=by
 rcases h with h|⟨g,cap,h1,h2,h3,h4,h5⟩
 ·exact Or.inl h
 ·exact Or.inr ⟨g,cap,h1,h2,h3,h4,λj x hj=>Ac hb (h5 j x hj)⟩
def Vm(l1 l2:List Int)(w:World)(e:Ending)(w':World):Prop:=e=.returned (.bool (decide (l1=l2)))∧Below w.heap.size w w'
theorem M9(v1 v2:Value)(l1 l2:List Int)(W:World)(h1:IntRow W v1 l1)(h2:IntRow W v2 l2):Calls Tryz.prog 13 #[v1,v2] W (Vm l1 l2 W):=by
 obtain ⟨g1,a1,c1,rfl,f1,m1,k1⟩:=h1.parts;obtain ⟨g2,a2,c2,rfl,f2,m2,k2⟩:=h2.parts;clear h1 h2;have hL:=qh f1;have hM:=qh f2;have hN:=qh k1;have hO:=qh k2;clear f1 f2 k1 k2;unfold maxLen at m1 m2;generalize hE:l1.length=n1 at *;generalize hF:l2.length=n2 at *;have hB:=qh hE;have hC:=qh hF;clear hE hF;by_cases hG:(n1:Int)=(n2:Int)
 ·obtain rfl:n1=n2:=by omega
  clear hG;go_enter Tryz.func13,Tryz.ntmps13;go_wp2_with fail;go_loopw [13] (λiv wr=>∃(i q:Nat),iv=int i64 i∧i≤n1∧wr=W.drewN q∧Hid (∀j,j<i→l1[j]?=l2[j]?)) (λiv _=>n1+1-(intOf iv).toNat)
  case atStart=>exact ⟨0,0,rfl,Nat.zero_le _,rfl,qh (λj hj=>by omega)⟩
  case round =>
   obtain ⟨i,q,rfl,hQ,rfl,hH⟩:=hrel;by_cases hI:i<n1
   ·have hi:(i:Int)<(n1:Int):=by omega
    obtain ⟨x,hx⟩:∃x,l1[i]?=some x:=⟨_,qg (by rw [hB.out];exact hI)⟩;obtain ⟨y,hy⟩:∃y,l2[i]?=some y:=⟨_,qg (by rw [hC.out];exact hI)⟩;have e1:=hL.out.resolve_left (λe=>by rw [e] at hx;simp at hx);have e2:=hM.out.resolve_left (λe=>by rw [e] at hy;simp at hy);have z1:=hN.out i x hx;have z2:=hO.out i y hy;have HX:=qh hx;have HY:=qh hy;clear hx hy;subst e1 e2;by_cases hJ:x=y
    ·subst hJ
     go_wp2_with fail;go_quiet (fail);go_wp2_with fail;go_roundw
     case rel=>exact ⟨i+1,_,by go_num,by omega,rfl,qh (λj hj=>by rcases Nat.lt_or_ge j i with h|h;exact hH.out j h;rw [show j=i by omega,HX.out,HY.out])⟩
     case measure=>simp [intOf];omega
    ·have hA:¬l1=l2:=λe=>by have:=HX.out;rw [e,HY.out] at this;cases this;exact hJ rfl
     have hD:=qh hA;clear hA;go_wp2_with fail;go_quiet (fail);go_wp2_with fail;go_ret;exact ⟨by rw [decide_eq_false hD.out];rfl,Ao (Ao (Below.refl _ _) _) _⟩
   ·have:i=n1:=by omega
    subst this;have hz:¬(i:Int)<(i:Int):=by omega
    have hK:l1=l2:=by
     apply List.ext_getElem?;intro j;rcases Nat.lt_or_ge j i with h|h
     ·exact hH.out j h
     ·rw [List.getElem?_eq_none (by rw [hB.out];exact h),List.getElem?_eq_none (by rw [hC.out];exact h)]
    have hP:=qh hK;clear hK;go_wp2_with fail;go_ret;exact ⟨by rw [decide_eq_true hP.out];rfl,Ao (Below.refl _ _) _⟩
 ·have hA:¬l1=l2:=λe=>hG (by rw [← hB.out,← hC.out,e])
  have hD:=qh hA;clear hA;go_enter Tryz.func13,Tryz.ntmps13;go_wp2_with fail;go_ret;exact ⟨by rw [decide_eq_false hD.out];rfl,Below.refl _ _⟩
end
section
open Go Go.RowKit Go.Shelf
noncomputable def AK:Code:=(Tryz.f5.body).getD .skip
noncomputable def OH:Code:=qe 0 AK
noncomputable def elem25n1:Code:=qe 1 AK
noncomputable def elem25n2:Code:=qe 2 AK
noncomputable def elem25n3:Code:=qe 3 AK
noncomputable def elem25n4:Code:=qe 4 AK
noncomputable def elem25n5:Code:=qe 5 AK
noncomputable def elem25n6:Code:=qe 6 AK
noncomputable def elem25n7:Code:=qe 7 AK
noncomputable def elem25n8:Code:=qe 8 AK
noncomputable def elem25n9:Code:=qe 9 AK
noncomputable def elem25n10:Code:=qe 10 AK
noncomputable def elem25n11:Code:=qe 11 AK
noncomputable def elem25n12:Code:=qe 12 AK
theorem S0:AK=.seq OH (Ab 1 AK):=rfl
theorem S3:Ab 1 AK=.seq elem25n1 (Ab 2 AK):=rfl
theorem S4:Ab 2 AK=.seq elem25n2 (Ab 3 AK):=rfl
theorem S5:Ab 3 AK=.seq elem25n3 (Ab 4 AK):=rfl
theorem S6:Ab 4 AK=.seq elem25n4 (Ab 5 AK):=rfl
theorem S7:Ab 5 AK=.seq elem25n5 (Ab 6 AK):=rfl
theorem S8:Ab 6 AK=.seq elem25n6 (Ab 7 AK):=rfl
theorem S9:Ab 7 AK=.seq elem25n7 (Ab 8 AK):=rfl
theorem Sa:Ab 8 AK=.seq elem25n8 (Ab 9 AK):=rfl
theorem Sb:Ab 9 AK=.seq elem25n9 (Ab 10 AK):=rfl
theorem QC:Ab 10 AK=.seq elem25n10 (Ab 11 AK):=rfl
theorem QD:Ab 11 AK=.seq elem25n11 (Ab 12 AK):=rfl
theorem QE:Ab 12 AK=.seq elem25n12 (Ab 13 AK):=rfl
theorem UN(W:World)(Q:Exit→Act→World→Prop)
  (hQ:∀(R T M U I0 I1 F D X:Nat) (bk:Value) (V:World),Sm18 R T M U I0 I1 F D V→(∀b∈[R,T,M,U,I0,I1,F,D],W.heap.size≤b∧b<X)→[R,T,M,U,I0,I1,F,D].Nodup→V.heap[X]?=some (.cells (Dg R T M U I0 I1 F D).cells 30 (0,0))→W.heap.size≤X→Below W.heap.size W V→Q .normal { tmps:=#[e0,.pointer (some ⟨X,0,none⟩),e2,e3,e4,e5,e6,e7,e8,e9,ea,eb,ec,ed,ee,bk,eg,eh,ei,ej,ek,el,em,en,eo,ep,eq,er,es,et,eu,ev,ew,ex,ey,ez,eA,eB,eC,eD,eE,eF,eG,eH,eI,eJ,eK,eL,eM,eN,eO,eP,eQ,eR,eS,eT,eU,eV,eW,eX,eY,eZ,aa,ab,ac,ae,af,ag,ah,ai,aj,ak,al,am,an,ao,ap,aq,ar,au,av,aw,ax,ay,az,aA,aB,aC,aD,aE,aF,aG,aH,aI,aJ,aK,aL,aM,aN,aO,aP,aQ,aR,aS,aT,aU,aV,aW,aX,aY,aZ,ba,bb,bc,bd,be,bf,bg,bh,bi,bj],defers:=[] } V) :
  elem25n1.wp Tryz.prog Q { tmps:=#[e0,e1,e2,e3,e4,e5,e6,e7,e8,e9,ea,eb,ec,ed,ee,ef,eg,eh,ei,ej,ek,el,em,en,eo,ep,eq,er,es,et,eu,ev,ew,ex,ey,ez,eA,eB,eC,eD,eE,eF,eG,eH,eI,eJ,eK,eL,eM,eN,eO,eP,eQ,eR,eS,eT,eU,eV,eW,eX,eY,eZ,aa,ab,ac,ae,af,ag,ah,ai,aj,ak,al,am,an,ao,ap,aq,ar,au,av,aw,ax,ay,az,aA,aB,aC,aD,aE,aF,aG,aH,aI,aJ,aK,aL,aM,aN,aO,aP,aQ,aR,aS,aT,aU,aV,aW,aX,aY,aZ,ba,bb,bc,bd,be,bf,bg,bh,bi,bj],defers:=[] } W:=by
 have HQ:=qh hQ;clear hQ;have C:=DM W;have HC:=qh C;clear C
 conv=>arg 2;whnf
 go_wp2_with (go_at_call 14;refine HC.out.mono ?_;rintro e V ⟨R,T,M,U,I0,I1,F,D,rfl,h1,h2,h3,h4⟩;obtain ⟨V2,xV,gV,bV,sV⟩:=Ag V #[sv [119],int i64 20,int i64 10,int i64 3,int i64 2,int i64 1,.slice (some ⟨R,0,none⟩) 1 1,.slice (some ⟨T,0,none⟩) 1 1,.slice none 0 0,.slice none 0 0,.slice (some ⟨F,0,none⟩) 2 2,.slice (some ⟨D,0,none⟩) 1 1] 30;have HH:=qh (And.intro h1 (And.intro h2 (And.intro h3 h4)));have HG:=qh (And.intro gV bV);have hA:=qh xV;clear h1 h2 h3 h4 gV bV sV xV);obtain ⟨h1,h2,h3,h4⟩:=HH.out;obtain ⟨gV,bV⟩:=HG.out;rw [hA.out];have hl:∀{b:Nat} {o:Obj},V.heap[b]?=some o→b<V.heap.size:=λh=>(qs.1 h).1
 refine HQ.out R T M U I0 I1 F D V.heap.size _ V2 ⟨Ah bV h1.hR,Ah bV h1.hT,Ah bV h1.hM,Ah bV h1.hU,Ah bV h1.hI0,Ah bV h1.hI1,Ah bV h1.hF,Ah bV h1.hD⟩ (λb hb=>⟨h2 b hb,?_⟩) h3 gV h4.size (Ad h4 bV);simp only [List.mem_cons,List.mem_nil_iff,or_false] at hb;rcases hb with rfl|rfl|rfl|rfl|rfl|rfl|rfl|rfl
 ·exact hl h1.hR
 ·exact hl h1.hT
 ·exact hl h1.hM
 ·exact hl h1.hU
 ·exact hl h1.hI0
 ·exact hl h1.hI1
 ·exact hl h1.hF
 ·exact hl h1.hD
theorem UR(W:World)(Q:Exit→Act→World→Prop)
  (hQ:∀(R T M U I0 I1 F D X:Nat) (bk:Value) (V:World),Sm18 R T M U I0 I1 F D V→(∀b∈[R,T,M,U,I0,I1,F,D],W.heap.size≤b∧b<X)→[R,T,M,U,I0,I1,F,D].Nodup→V.heap[X]?=some (.cells (Dg R T M U I0 I1 F D).cells 30 (0,0))→W.heap.size≤X→Below W.heap.size W V→Q .normal { tmps:=#[e0,e1,e2,e3,e4,e5,e6,e7,e8,.pointer (some ⟨X,0,none⟩),ea,eb,ec,ed,ee,ef,eg,eh,ei,ej,ek,el,em,en,eo,ep,eq,er,es,et,eu,ev,bk,ex,ey,ez,eA,eB,eC,eD,eE,eF,eG,eH,eI,eJ,eK,eL,eM,eN,eO,eP,eQ,eR,eS,eT,eU,eV,eW,eX,eY,eZ,aa,ab,ac,ae,af,ag,ah,ai,aj,ak,al,am,an,ao,ap,aq,ar,au,av,aw,ax,ay,az,aA,aB,aC,aD,aE,aF,aG,aH,aI,aJ,aK,aL,aM,aN,aO,aP,aQ,aR,aS,aT,aU,aV,aW,aX,aY,aZ,ba,bb,bc,bd,be,bf,bg,bh,bi,bj],defers:=[] } V) :
  elem25n5.wp Tryz.prog Q { tmps:=#[e0,e1,e2,e3,e4,e5,e6,e7,e8,e9,ea,eb,ec,ed,ee,ef,eg,eh,ei,ej,ek,el,em,en,eo,ep,eq,er,es,et,eu,ev,ew,ex,ey,ez,eA,eB,eC,eD,eE,eF,eG,eH,eI,eJ,eK,eL,eM,eN,eO,eP,eQ,eR,eS,eT,eU,eV,eW,eX,eY,eZ,aa,ab,ac,ae,af,ag,ah,ai,aj,ak,al,am,an,ao,ap,aq,ar,au,av,aw,ax,ay,az,aA,aB,aC,aD,aE,aF,aG,aH,aI,aJ,aK,aL,aM,aN,aO,aP,aQ,aR,aS,aT,aU,aV,aW,aX,aY,aZ,ba,bb,bc,bd,be,bf,bg,bh,bi,bj],defers:=[] } W:=by
 have HQ:=qh hQ;clear hQ;have C:=DM W;have HC:=qh C;clear C
 conv=>arg 2;whnf
 go_wp2_with (go_at_call 14;refine HC.out.mono ?_;rintro e V ⟨R,T,M,U,I0,I1,F,D,rfl,h1,h2,h3,h4⟩;obtain ⟨V2,xV,gV,bV,sV⟩:=Ag V #[sv [119],int i64 20,int i64 10,int i64 3,int i64 2,int i64 1,.slice (some ⟨R,0,none⟩) 1 1,.slice (some ⟨T,0,none⟩) 1 1,.slice none 0 0,.slice none 0 0,.slice (some ⟨F,0,none⟩) 2 2,.slice (some ⟨D,0,none⟩) 1 1] 30;have HH:=qh (And.intro h1 (And.intro h2 (And.intro h3 h4)));have HG:=qh (And.intro gV bV);have hA:=qh xV;clear h1 h2 h3 h4 gV bV sV xV);obtain ⟨h1,h2,h3,h4⟩:=HH.out;obtain ⟨gV,bV⟩:=HG.out;rw [hA.out];have hl:∀{b:Nat} {o:Obj},V.heap[b]?=some o→b<V.heap.size:=λh=>(qs.1 h).1
 refine HQ.out R T M U I0 I1 F D V.heap.size _ V2 ⟨Ah bV h1.hR,Ah bV h1.hT,Ah bV h1.hM,Ah bV h1.hU,Ah bV h1.hI0,Ah bV h1.hI1,Ah bV h1.hF,Ah bV h1.hD⟩ (λb hb=>⟨h2 b hb,?_⟩) h3 gV h4.size (Ad h4 bV);simp only [List.mem_cons,List.mem_nil_iff,or_false] at hb;rcases hb with rfl|rfl|rfl|rfl|rfl|rfl|rfl|rfl
 ·exact hl h1.hR
 ·exact hl h1.hT
 ·exact hl h1.hM
 ·exact hl h1.hU
 ·exact hl h1.hI0
 ·exact hl h1.hI1
 ·exact hl h1.hF
 ·exact hl h1.hD
theorem UU(W:World)(Q:Exit→Act→World→Prop)
  (hQ:∀(R T M U I0 I1 F D X:Nat) (bk:Value) (V:World),Sm18 R T M U I0 I1 F D V→(∀b∈[R,T,M,U,I0,I1,F,D],W.heap.size≤b∧b<X)→[R,T,M,U,I0,I1,F,D].Nodup→V.heap[X]?=some (.cells (Dg R T M U I0 I1 F D).cells 30 (0,0))→W.heap.size≤X→Below W.heap.size W V→Q .normal { tmps:=#[e0,e1,e2,e3,e4,e5,e6,e7,e8,e9,ea,eb,ec,.pointer (some ⟨X,0,none⟩),ee,ef,eg,eh,ei,ej,ek,el,em,en,eo,ep,eq,er,es,et,eu,ev,ew,ex,ey,ez,eA,eB,eC,eD,eE,eF,eG,eH,eI,eJ,eK,eL,eM,eN,eO,eP,bk,eR,eS,eT,eU,eV,eW,eX,eY,eZ,aa,ab,ac,ae,af,ag,ah,ai,aj,ak,al,am,an,ao,ap,aq,ar,au,av,aw,ax,ay,az,aA,aB,aC,aD,aE,aF,aG,aH,aI,aJ,aK,aL,aM,aN,aO,aP,aQ,aR,aS,aT,aU,aV,aW,aX,aY,aZ,ba,bb,bc,bd,be,bf,bg,bh,bi,bj],defers:=[] } V) :
  elem25n8.wp Tryz.prog Q { tmps:=#[e0,e1,e2,e3,e4,e5,e6,e7,e8,e9,ea,eb,ec,ed,ee,ef,eg,eh,ei,ej,ek,el,em,en,eo,ep,eq,er,es,et,eu,ev,ew,ex,ey,ez,eA,eB,eC,eD,eE,eF,eG,eH,eI,eJ,eK,eL,eM,eN,eO,eP,eQ,eR,eS,eT,eU,eV,eW,eX,eY,eZ,aa,ab,ac,ae,af,ag,ah,ai,aj,ak,al,am,an,ao,ap,aq,ar,au,av,aw,ax,ay,az,aA,aB,aC,aD,aE,aF,aG,aH,aI,aJ,aK,aL,aM,aN,aO,aP,aQ,aR,aS,aT,aU,aV,aW,aX,aY,aZ,ba,bb,bc,bd,be,bf,bg,bh,bi,bj],defers:=[] } W:=by
 have HQ:=qh hQ;clear hQ;have C:=DM W;have HC:=qh C;clear C
 conv=>arg 2;whnf
 go_wp2_with (go_at_call 14;refine HC.out.mono ?_;rintro e V ⟨R,T,M,U,I0,I1,F,D,rfl,h1,h2,h3,h4⟩;obtain ⟨V2,xV,gV,bV,sV⟩:=Ag V #[sv [119],int i64 20,int i64 10,int i64 3,int i64 2,int i64 1,.slice (some ⟨R,0,none⟩) 1 1,.slice (some ⟨T,0,none⟩) 1 1,.slice none 0 0,.slice none 0 0,.slice (some ⟨F,0,none⟩) 2 2,.slice (some ⟨D,0,none⟩) 1 1] 30;have HH:=qh (And.intro h1 (And.intro h2 (And.intro h3 h4)));have HG:=qh (And.intro gV bV);have hA:=qh xV;clear h1 h2 h3 h4 gV bV sV xV);obtain ⟨h1,h2,h3,h4⟩:=HH.out;obtain ⟨gV,bV⟩:=HG.out;rw [hA.out];have hl:∀{b:Nat} {o:Obj},V.heap[b]?=some o→b<V.heap.size:=λh=>(qs.1 h).1
 refine HQ.out R T M U I0 I1 F D V.heap.size _ V2 ⟨Ah bV h1.hR,Ah bV h1.hT,Ah bV h1.hM,Ah bV h1.hU,Ah bV h1.hI0,Ah bV h1.hI1,Ah bV h1.hF,Ah bV h1.hD⟩ (λb hb=>⟨h2 b hb,?_⟩) h3 gV h4.size (Ad h4 bV);simp only [List.mem_cons,List.mem_nil_iff,or_false] at hb;rcases hb with rfl|rfl|rfl|rfl|rfl|rfl|rfl|rfl
 ·exact hl h1.hR
 ·exact hl h1.hT
 ·exact hl h1.hM
 ·exact hl h1.hU
 ·exact hl h1.hI0
 ·exact hl h1.hI1
 ·exact hl h1.hF
 ·exact hl h1.hD
theorem TR(W:World)(Q:Exit→Act→World→Prop)
  (hQ:∀(R T M U I0 I1 F D X:Nat) (bk:Value) (V:World),Sm18 R T M U I0 I1 F D V→(∀b∈[R,T,M,U,I0,I1,F,D],W.heap.size≤b∧b<X)→[R,T,M,U,I0,I1,F,D].Nodup→V.heap[X]?=some (.cells (Dg R T M U I0 I1 F D).cells 30 (0,0))→W.heap.size≤X→Below W.heap.size W V→Q .normal { tmps:=#[e0,e1,e2,e3,e4,e5,e6,e7,e8,e9,ea,eb,ec,ed,.pointer (some ⟨X,0,none⟩),ef,eg,eh,ei,ej,ek,el,em,en,eo,ep,eq,er,es,et,eu,ev,ew,ex,ey,ez,eA,eB,eC,eD,eE,eF,eG,eH,eI,eJ,eK,eL,eM,eN,eO,eP,eQ,eR,eS,bk,eU,eV,eW,eX,eY,eZ,aa,ab,ac,ae,af,ag,ah,ai,aj,ak,al,am,an,ao,ap,aq,ar,au,av,aw,ax,ay,az,aA,aB,aC,aD,aE,aF,aG,aH,aI,aJ,aK,aL,aM,aN,aO,aP,aQ,aR,aS,aT,aU,aV,aW,aX,aY,aZ,ba,bb,bc,bd,be,bf,bg,bh,bi,bj],defers:=[] } V) :
  elem25n10.wp Tryz.prog Q { tmps:=#[e0,e1,e2,e3,e4,e5,e6,e7,e8,e9,ea,eb,ec,ed,ee,ef,eg,eh,ei,ej,ek,el,em,en,eo,ep,eq,er,es,et,eu,ev,ew,ex,ey,ez,eA,eB,eC,eD,eE,eF,eG,eH,eI,eJ,eK,eL,eM,eN,eO,eP,eQ,eR,eS,eT,eU,eV,eW,eX,eY,eZ,aa,ab,ac,ae,af,ag,ah,ai,aj,ak,al,am,an,ao,ap,aq,ar,au,av,aw,ax,ay,az,aA,aB,aC,aD,aE,aF,aG,aH,aI,aJ,aK,aL,aM,aN,aO,aP,aQ,aR,aS,aT,aU,aV,aW,aX,aY,aZ,ba,bb,bc,bd,be,bf,bg,bh,bi,bj],defers:=[] } W:=by
 have HQ:=qh hQ;clear hQ;have C:=DM W;have HC:=qh C;clear C
 conv=>arg 2;whnf
 go_wp2_with (go_at_call 14;refine HC.out.mono ?_;rintro e V ⟨R,T,M,U,I0,I1,F,D,rfl,h1,h2,h3,h4⟩;obtain ⟨V2,xV,gV,bV,sV⟩:=Ag V #[sv [119],int i64 20,int i64 10,int i64 3,int i64 2,int i64 1,.slice (some ⟨R,0,none⟩) 1 1,.slice (some ⟨T,0,none⟩) 1 1,.slice none 0 0,.slice none 0 0,.slice (some ⟨F,0,none⟩) 2 2,.slice (some ⟨D,0,none⟩) 1 1] 30;have HH:=qh (And.intro h1 (And.intro h2 (And.intro h3 h4)));have HG:=qh (And.intro gV bV);have hA:=qh xV;clear h1 h2 h3 h4 gV bV sV xV);obtain ⟨h1,h2,h3,h4⟩:=HH.out;obtain ⟨gV,bV⟩:=HG.out;rw [hA.out];have hl:∀{b:Nat} {o:Obj},V.heap[b]?=some o→b<V.heap.size:=λh=>(qs.1 h).1
 refine HQ.out R T M U I0 I1 F D V.heap.size _ V2 ⟨Ah bV h1.hR,Ah bV h1.hT,Ah bV h1.hM,Ah bV h1.hU,Ah bV h1.hI0,Ah bV h1.hI1,Ah bV h1.hF,Ah bV h1.hD⟩ (λb hb=>⟨h2 b hb,?_⟩) h3 gV h4.size (Ad h4 bV);simp only [List.mem_cons,List.mem_nil_iff,or_false] at hb;rcases hb with rfl|rfl|rfl|rfl|rfl|rfl|rfl|rfl
 ·exact hl h1.hR
 ·exact hl h1.hT
 ·exact hl h1.hM
 ·exact hl h1.hU
 ·exact hl h1.hI0
 ·exact hl h1.hI1
 ·exact hl h1.hF
 ·exact hl h1.hD
theorem UO(R T M U I0 I1 F D X:Nat)(W:World)(hX:Bx (Dg R T M U I0 I1 F D) Dh X W)(he:Env W)(Q:Exit→Act→World→Prop)
  (hQ:∀(bk bl bm bn bo:Value) (V:World),Below W.heap.size W V→Q .normal { tmps:=#[e0,.pointer (some ⟨X,0,none⟩),int i64 2,int i64 0,e4,e5,e6,e7,e8,e9,ea,eb,ec,ed,ee,ef,bk,bl,bm,bn,bo,el,em,en,eo,ep,eq,er,es,et,eu,ev,ew,ex,ey,ez,eA,eB,eC,eD,eE,eF,eG,eH,eI,eJ,eK,eL,eM,eN,eO,eP,eQ,eR,eS,eT,eU,eV,eW,eX,eY,eZ,aa,ab,ac,ae,af,ag,ah,ai,aj,ak,al,am,an,ao,ap,aq,ar,au,av,aw,ax,ay,az,aA,aB,aC,aD,aE,aF,aG,aH,aI,aJ,aK,aL,aM,aN,aO,aP,aQ,aR,aS,aT,aU,aV,aW,aX,aY,aZ,ba,bb,bc,bd,be,bf,bg,bh,bi,bj],defers:=[] } V) :
  elem25n2.wp Tryz.prog Q { tmps:=#[e0,.pointer (some ⟨X,0,none⟩),e2,e3,e4,e5,e6,e7,e8,e9,ea,eb,ec,ed,ee,ef,eg,eh,ei,ej,ek,el,em,en,eo,ep,eq,er,es,et,eu,ev,ew,ex,ey,ez,eA,eB,eC,eD,eE,eF,eG,eH,eI,eJ,eK,eL,eM,eN,eO,eP,eQ,eR,eS,eT,eU,eV,eW,eX,eY,eZ,aa,ab,ac,ae,af,ag,ah,ai,aj,ak,al,am,an,ao,ap,aq,ar,au,av,aw,ax,ay,az,aA,aB,aC,aD,aE,aF,aG,aH,aI,aJ,aK,aL,aM,aN,aO,aP,aQ,aR,aS,aT,aU,aV,aW,aX,aY,aZ,ba,bb,bc,bd,be,bf,bg,bh,bi,bj],defers:=[] } W:=by
 have C:=GZ (Dg R T M U I0 I1 F D) Dh (1) W hX.at_ hX.ns he;unfold QL at C;rw [O0] at C;have HQ:=qh hQ;have HC:=qh C;have HX:=qh hX.box;clear hQ C hX he
 conv=>arg 2;whnf
 have st0:True:=trivial
 go_wp2_with (first|(have q:=st0;clear q st0;(refine wpList_load_row rfl 30 _ rfl X rfl 30 (Dg R T M U I0 I1 F D).cells (0,0) _ HX.out Tryz.underlying30 rfl (by kernel_rfl) ?_;simp only [Act.put,qD,qE,qF]))|(go_at_call 11;refine HC.out.mono ?_;rintro e V ⟨rfl,hv⟩;have HV:=qh hv;clear hv));exact HQ.out _ _ _ _ _ _ HV.out
theorem UP(R T M U I0 I1 F D X:Nat)(W:World)(hX:Bx (Dg R T M U I0 I1 F D) Dh X W)(he:Env W)(Q:Exit→Act→World→Prop)
  (hQ:∀(bk bl bm bn bo:Value) (V:World),Below W.heap.size W V→Q .normal { tmps:=#[e0,.pointer (some ⟨X,0,none⟩),e2,e3,int i64 0,int i64 1,e6,e7,e8,e9,ea,eb,ec,ed,ee,ef,eg,eh,ei,ej,ek,bk,bl,bm,bn,bo,eq,er,es,et,eu,ev,ew,ex,ey,ez,eA,eB,eC,eD,eE,eF,eG,eH,eI,eJ,eK,eL,eM,eN,eO,eP,eQ,eR,eS,eT,eU,eV,eW,eX,eY,eZ,aa,ab,ac,ae,af,ag,ah,ai,aj,ak,al,am,an,ao,ap,aq,ar,au,av,aw,ax,ay,az,aA,aB,aC,aD,aE,aF,aG,aH,aI,aJ,aK,aL,aM,aN,aO,aP,aQ,aR,aS,aT,aU,aV,aW,aX,aY,aZ,ba,bb,bc,bd,be,bf,bg,bh,bi,bj],defers:=[] } V) :
  elem25n3.wp Tryz.prog Q { tmps:=#[e0,.pointer (some ⟨X,0,none⟩),e2,e3,e4,e5,e6,e7,e8,e9,ea,eb,ec,ed,ee,ef,eg,eh,ei,ej,ek,el,em,en,eo,ep,eq,er,es,et,eu,ev,ew,ex,ey,ez,eA,eB,eC,eD,eE,eF,eG,eH,eI,eJ,eK,eL,eM,eN,eO,eP,eQ,eR,eS,eT,eU,eV,eW,eX,eY,eZ,aa,ab,ac,ae,af,ag,ah,ai,aj,ak,al,am,an,ao,ap,aq,ar,au,av,aw,ax,ay,az,aA,aB,aC,aD,aE,aF,aG,aH,aI,aJ,aK,aL,aM,aN,aO,aP,aQ,aR,aS,aT,aU,aV,aW,aX,aY,aZ,ba,bb,bc,bd,be,bf,bg,bh,bi,bj],defers:=[] } W:=by
 have C:=GZ (Dg R T M U I0 I1 F D) Dh (-1) W hX.at_ hX.ns he;unfold QL at C;rw [O1] at C;have HQ:=qh hQ;have HC:=qh C;have HX:=qh hX.box;clear hQ C hX he
 conv=>arg 2;whnf
 have st0:True:=trivial
 go_wp2_with (first|(have q:=st0;clear q st0;(refine wpList_load_row rfl 30 _ rfl X rfl 30 (Dg R T M U I0 I1 F D).cells (0,0) _ HX.out Tryz.underlying30 rfl (by kernel_rfl) ?_;simp only [Act.put,qD,qE,qF]))|(go_at_call 11;refine HC.out.mono ?_;rintro e V ⟨rfl,hv⟩;have HV:=qh hv;clear hv));exact HQ.out _ _ _ _ _ _ HV.out
theorem UQ(R T M U I0 I1 F D X:Nat)(W:World)(hX:Bx (Dg R T M U I0 I1 F D) Dh X W)(he:Env W)(Q:Exit→Act→World→Prop)
  (hQ:∀(bk bl bm bn bo bp:Value) (V:World),Below W.heap.size W V→Q .normal { tmps:=#[e0,.pointer (some ⟨X,0,none⟩),e2,e3,e4,e5,.slice none 0 0,.bool false,int i64 0,e9,ea,eb,ec,ed,ee,ef,eg,eh,ei,ej,ek,el,em,en,eo,ep,bk,bl,bm,bn,bo,bp,ew,ex,ey,ez,eA,eB,eC,eD,eE,eF,eG,eH,eI,eJ,eK,eL,eM,eN,eO,eP,eQ,eR,eS,eT,eU,eV,eW,eX,eY,eZ,aa,ab,ac,ae,af,ag,ah,ai,aj,ak,al,am,an,ao,ap,aq,ar,au,av,aw,ax,ay,az,aA,aB,aC,aD,aE,aF,aG,aH,aI,aJ,aK,aL,aM,aN,aO,aP,aQ,aR,aS,aT,aU,aV,aW,aX,aY,aZ,ba,bb,bc,bd,be,bf,bg,bh,bi,bj],defers:=[] } V) :
  elem25n4.wp Tryz.prog Q { tmps:=#[e0,.pointer (some ⟨X,0,none⟩),e2,e3,e4,e5,e6,e7,e8,e9,ea,eb,ec,ed,ee,ef,eg,eh,ei,ej,ek,el,em,en,eo,ep,eq,er,es,et,eu,ev,ew,ex,ey,ez,eA,eB,eC,eD,eE,eF,eG,eH,eI,eJ,eK,eL,eM,eN,eO,eP,eQ,eR,eS,eT,eU,eV,eW,eX,eY,eZ,aa,ab,ac,ae,af,ag,ah,ai,aj,ak,al,am,an,ao,ap,aq,ar,au,av,aw,ax,ay,az,aA,aB,aC,aD,aE,aF,aG,aH,aI,aJ,aK,aL,aM,aN,aO,aP,aQ,aR,aS,aT,aU,aV,aW,aX,aY,aZ,ba,bb,bc,bd,be,bf,bg,bh,bi,bj],defers:=[] } W:=by
 have C:=KM (Dg R T M U I0 I1 F D) Dh W hX.at_ hX.ns he;unfold Of at C;rw [O2,QB] at C;have HQ:=qh hQ;have HC:=qh C;have HX:=qh hX.box;clear hQ C hX he
 conv=>arg 2;whnf
 have st0:True:=trivial
 go_wp2_with (first|(have q:=st0;clear q st0;(refine wpList_load_row rfl 30 _ rfl X rfl 30 (Dg R T M U I0 I1 F D).cells (0,0) _ HX.out Tryz.underlying30 rfl (by kernel_rfl) ?_;simp only [Act.put,qD,qE,qF]))|(go_at_call 9;refine HC.out.mono ?_;rintro e V ⟨v,rfl,hr,hv⟩;rcases hr with ⟨_,rfl⟩|⟨g,cap,rfl,hA,_⟩;rotate_left;exact absurd rfl hA;have HV:=qh hv;clear hv));exact HQ.out _ _ _ _ _ _ _ HV.out
theorem UT(R T F D X0 X1 X:Nat)(W:World)(hX:Bx (Ef 2 1 R T F D (rgP X0) (rgQ X1) 1) Js X W)(he:Env W)(Q:Exit→Act→World→Prop)
  (hQ:∀(v:Value) (bk bl bm bn bo bp:Value) (V:World),IntRow V v [0,1]→Below W.heap.size W V→Q .normal { tmps:=#[e0,e1,e2,e3,e4,e5,e6,e7,e8,.pointer (some ⟨X,0,none⟩),v,.bool true,int i64 0,ed,ee,ef,eg,eh,ei,ej,ek,el,em,en,eo,ep,eq,er,es,et,eu,ev,ew,ex,ey,ez,eA,eB,eC,eD,eE,eF,eG,eH,eI,eJ,bk,bl,bm,bn,bo,bp,eQ,eR,eS,eT,eU,eV,eW,eX,eY,eZ,aa,ab,ac,ae,af,ag,ah,ai,aj,ak,al,am,an,ao,ap,aq,ar,au,av,aw,ax,ay,az,aA,aB,aC,aD,aE,aF,aG,aH,aI,aJ,aK,aL,aM,aN,aO,aP,aQ,aR,aS,aT,aU,aV,aW,aX,aY,aZ,ba,bb,bc,bd,be,bf,bg,bh,bi,bj],defers:=[] } V) :
  elem25n7.wp Tryz.prog Q { tmps:=#[e0,e1,e2,e3,e4,e5,e6,e7,e8,.pointer (some ⟨X,0,none⟩),ea,eb,ec,ed,ee,ef,eg,eh,ei,ej,ek,el,em,en,eo,ep,eq,er,es,et,eu,ev,ew,ex,ey,ez,eA,eB,eC,eD,eE,eF,eG,eH,eI,eJ,eK,eL,eM,eN,eO,eP,eQ,eR,eS,eT,eU,eV,eW,eX,eY,eZ,aa,ab,ac,ae,af,ag,ah,ai,aj,ak,al,am,an,ao,ap,aq,ar,au,av,aw,ax,ay,az,aA,aB,aC,aD,aE,aF,aG,aH,aI,aJ,aK,aL,aM,aN,aO,aP,aQ,aR,aS,aT,aU,aV,aW,aX,aY,aZ,ba,bb,bc,bd,be,bf,bg,bh,bi,bj],defers:=[] } W:=by
 have C:=KM (Ef 2 1 R T F D (rgP X0) (rgQ X1) 1) Js W hX.at_ hX.ns he;unfold Of at C;rw [ND,Qe] at C;have HQ:=qh hQ;have HC:=qh C;have HX:=qh hX.box;clear hQ C hX he
 conv=>arg 2;whnf
 have st0:True:=trivial
 go_wp2_with (first|(have q:=st0;clear q st0;(refine wpList_load_row rfl 30 _ rfl X rfl 30 (Ef 2 1 R T F D (rgP X0) (rgQ X1) 1).cells (0,0) _ HX.out Tryz.underlying30 rfl (by kernel_rfl) ?_;simp only [Act.put,qD,qE,qF]))|(go_at_call 9;refine HC.out.mono ?_;rintro e V ⟨v,rfl,hr,hv⟩;have HV:=qh (And.intro hr hv);clear hv hr));exact HQ.out _ _ _ _ _ _ _ _ HV.out.1 HV.out.2
theorem UV(R T F D X:Nat)(p0 p1:Ph)(t0 t1 bar:Int)(W:World)(hX:W.heap[X]?=some (.cells (Ef t0 t1 R T F D p0 p1 bar).cells 30 (0,0)))(Q:Exit→Act→World→Prop)
  (hQ:∀(bj bk:Value) (V:World),V.heap[X]?=some (.cells (Ef 0 0 R T F D p0 p1 bar).cells 30 (0,0))→(∀b,b≠X→V.heap[b]?=W.heap[b]?)→(∀n,n≤X→Below n W V)→Q .normal { tmps:=#[e0,e1,e2,e3,e4,e5,e6,e7,e8,e9,ea,eb,ec,.pointer (some ⟨X,0,none⟩),ed,ee,ef,eg,eh,ei,ej,ek,el,em,en,eo,ep,eq,er,es,et,eu,ev,ew,ex,ey,ez,eA,eB,eC,eD,eE,eF,eG,eH,eI,eJ,eK,eL,eM,eN,eO,eP,bj,bk,eS,eT,eU,eV,eW,eX,eY,eZ,aa,ab,ac,ae,af,ag,ah,ai,aj,ak,al,am,an,ao,ap,aq,ar,au,av,aw,ax,ay,az,aA,aB,aC,aD,aE,aF,aG,aH,aI,aJ,aK,aL,aM,aN,aO,aP,aQ,aR,aS,aT,aU,aV,aW,aX,aY,aZ,ba,bb,bc,bd,be,bf,bg,bh,bi],defers:=[] } V) :
  elem25n9.wp Tryz.prog Q { tmps:=#[e0,e1,e2,e3,e4,e5,e6,e7,e8,e9,ea,eb,ec,.pointer (some ⟨X,0,none⟩),ed,ee,ef,eg,eh,ei,ej,ek,el,em,en,eo,ep,eq,er,es,et,eu,ev,ew,ex,ey,ez,eA,eB,eC,eD,eE,eF,eG,eH,eI,eJ,eK,eL,eM,eN,eO,eP,eQ,eR,eS,eT,eU,eV,eW,eX,eY,eZ,aa,ab,ac,ae,af,ag,ah,ai,aj,ak,al,am,an,ao,ap,aq,ar,au,av,aw,ax,ay,az,aA,aB,aC,aD,aE,aF,aG,aH,aI,aJ,aK,aL,aM,aN,aO,aP,aQ,aR,aS,aT,aU,aV,aW,aX,aY,aZ,ba,bb,bc,bd,be,bf,bg,bh,bi],defers:=[] } W:=by
 have y4:W.cell? ⟨X,4,none⟩=some (int i64 t0):=Aa hX 4 rfl;have y5:W.cell? ⟨X,5,none⟩=some (int i64 t1):=Aa hX 5 rfl;have fz:∀q,W.frozen? ⟨X,q,none⟩=false:=λq=>(show FreeB W X from ⟨_,_,hX⟩).free q
 have hq:=hQ;have g1:=BN (i:=4) (int i64 0) hX;have g2:=BN (i:=5) (int i64 0) g1;have HE:Hid (∃V,(W.setCell ⟨X,4,none⟩ (int i64 0)).setCell ⟨X,5,none⟩ (int i64 0)=V∧V.heap[X]?=some (.cells (Ef 0 0 R T F D p0 p1 bar).cells 30 (0,0))∧(∀b,b≠X→V.heap[b]?=W.heap[b]?)∧(∀n,n≤X→Below n W V)):=qh ⟨_,rfl,g2,λb hb=>by rw [Ak _ hb,Ak _ hb],λn hn=>((Below.refl n W).setCell (p:=⟨X,4,none⟩) hn _).setCell (p:=⟨X,5,none⟩) hn _⟩;have HQ:=qh hQ;obtain ⟨V,hV,h1,h2,h3⟩:=HE.out;have HV:=qh (And.intro h1 (And.intro h2 h3));clear hQ hq hX g1 g2 HE h1 h2 h3
 conv=>arg 2;whnf
 go_wp2_with fail;exact HQ.out _ _ _ HV.out.1 HV.out.2.1 HV.out.2.2
theorem TS(R T F D X:Nat)(p0 p1:Ph)(t0 t1 bar:Int)(W:World)(hX:W.heap[X]?=some (.cells (Ef t0 t1 R T F D p0 p1 bar).cells 30 (0,0)))(hD:W.heap[D]?=some (.cells #[sv [97],int i64 0,sv [113],int i64 1,int i64 1,.bool false] 53 (0,0)))(Q:Exit→Act→World→Prop)
  (hQ:∀(bj bk bl bm:Value) (V:World),V.heap[D]?=some (.cells #[sv [97],int i64 0,sv [113],int i64 1,int i64 2,.bool false] 53 (0,0))→(∀b,b≠D→V.heap[b]?=W.heap[b]?)→(∀n,n≤D→Below n W V)→Q .normal { tmps:=#[e0,e1,e2,e3,e4,e5,e6,e7,e8,e9,ea,eb,ec,ed,.pointer (some ⟨X,0,none⟩),ee,ef,eg,eh,ei,ej,ek,el,em,en,eo,ep,eq,er,es,et,eu,ev,ew,ex,ey,ez,eA,eB,eC,eD,eE,eF,eG,eH,eI,eJ,eK,eL,eM,eN,eO,eP,eQ,eR,eS,bj,bk,bl,bm,eX,eY,eZ,aa,ab,ac,ae,af,ag,ah,ai,aj,ak,al,am,an,ao,ap,aq,ar,au,av,aw,ax,ay,az,aA,aB,aC,aD,aE,aF,aG,aH,aI,aJ,aK,aL,aM,aN,aO,aP,aQ,aR,aS,aT,aU,aV,aW,aX,aY,aZ,ba,bb,bc,bd,be,bf,bg,bh,bi],defers:=[] } V) :
  elem25n11.wp Tryz.prog Q { tmps:=#[e0,e1,e2,e3,e4,e5,e6,e7,e8,e9,ea,eb,ec,ed,.pointer (some ⟨X,0,none⟩),ee,ef,eg,eh,ei,ej,ek,el,em,en,eo,ep,eq,er,es,et,eu,ev,ew,ex,ey,ez,eA,eB,eC,eD,eE,eF,eG,eH,eI,eJ,eK,eL,eM,eN,eO,eP,eQ,eR,eS,eT,eU,eV,eW,eX,eY,eZ,aa,ab,ac,ae,af,ag,ah,ai,aj,ak,al,am,an,ao,ap,aq,ar,au,av,aw,ax,ay,az,aA,aB,aC,aD,aE,aF,aG,aH,aI,aJ,aK,aL,aM,aN,aO,aP,aQ,aR,aS,aT,aU,aV,aW,aX,aY,aZ,ba,bb,bc,bd,be,bf,bg,bh,bi],defers:=[] } W:=by
 have y11:W.cell? ⟨X,11,none⟩=some (.slice (some ⟨D,0,none⟩) 1 1):=Aa hX 11 rfl;have z4:W.cell? ⟨D,4,none⟩=some (int i64 1):=Aa hD 4 rfl;have fz:W.frozen? ⟨D,4,none⟩=false:=(show FreeB W D from ⟨_,_,hD⟩).free 4;have HE:Hid (∃V,W.setCell ⟨D,4,none⟩ (int i64 2)=V∧V.heap[D]?=some (.cells #[sv [97],int i64 0,sv [113],int i64 1,int i64 2,.bool false] 53 (0,0))∧(∀b,b≠D→V.heap[b]?=W.heap[b]?)∧(∀n,n≤D→Below n W V)):=qh ⟨_,rfl,BN (i:=4) (int i64 2) hD,λb hb=>Ak _ hb,λn hn=>(Below.refl n W).setCell (p:=⟨D,4,none⟩) hn _⟩;have HQ:=qh hQ;obtain ⟨V,hV,h1,h2,h3⟩:=HE.out;have HV:=qh (And.intro h1 (And.intro h2 h3));clear hQ hX hD HE h1 h2 h3
 conv=>arg 2;whnf
 go_wp2_with fail;exact HQ.out _ _ _ _ _ HV.out.1 HV.out.2.1 HV.out.2.2
theorem TT(v:Value)(W:World)(hv:IntRow W v [0,1])(Q:Exit→Act→World→Prop)
  (hQ:∀(bh bi bj bk bl bm bn bo bp bq br bs bt bu bv bw bx bz bA bB bC bD bE bF bG bH bI bJ bK bL bM:Value) (V:World),Below W.heap.size W V→Q .normal { tmps:=#[e0,e1,int i64 2,int i64 0,e4,int i64 1,e6,.bool false,int i64 0,e9,v,.bool true,int i64 0,ea,eb,ec,ed,ee,ef,eg,eh,ei,ej,ek,el,em,en,eo,ep,eq,er,es,et,eu,ev,ew,ex,ey,ez,eA,eB,eC,eD,eE,eF,eG,eH,eI,eJ,eK,eL,eM,eN,eO,eP,eQ,eR,eS,eT,eU,bh,bi,bj,bk,bl,bm,bn,bo,bp,bq,br,bs,bt,bu,bv,bw,bx,bz,bA,bB,bC,bD,bE,bF,bG,bH,bI,bJ,bK,bL,bM,aD,aE,aF,aG,aH,aI,aJ,aK,aL,aM,aN,aO,aP,aQ,aR,aS,aT,aU,aV,aW,aX,aY,aZ,ba,bb,bc,bd,be,bf,bg],defers:=[] } V) :
  elem25n12.wp Tryz.prog Q { tmps:=#[e0,e1,int i64 2,int i64 0,e4,int i64 1,e6,.bool false,int i64 0,e9,v,.bool true,int i64 0,ea,eb,ec,ed,ee,ef,eg,eh,ei,ej,ek,el,em,en,eo,ep,eq,er,es,et,eu,ev,ew,ex,ey,ez,eA,eB,eC,eD,eE,eF,eG,eH,eI,eJ,eK,eL,eM,eN,eO,eP,eQ,eR,eS,eT,eU,eV,eW,eX,eY,eZ,aa,ab,ac,ae,af,ag,ah,ai,aj,ak,al,am,an,ao,ap,aq,ar,au,av,aw,ax,ay,az,aA,aB,aC,aD,aE,aF,aG,aH,aI,aJ,aK,aL,aM,aN,aO,aP,aQ,aR,aS,aT,aU,aV,aW,aX,aY,aZ,ba,bb,bc,bd,be,bf,bg],defers:=[] } W:=by
 obtain ⟨V1,xV,gV,bV,sV⟩:=Ag W #[int i64 0,int i64 1] 3
 have hl:IntRow V1 (.slice (some ⟨W.heap.size,0,none⟩) 2 2) [0,1]:=Or.inr ⟨W.heap.size,2,rfl,by simp,by simp,by decide,λj x hj=>by
  match j,hj with
  | 0,hj=>cases hj;exact Aa gV 0 rfl
  | 1,hj=>cases hj;exact Aa gV 1 rfl⟩
 have C:=M9 v _ [0,1] [0,1] V1 (hv.below bV) hl;have HQ:=qh hQ;have HC:=qh C;have HB:=qh bV;clear hQ C hl hv gV bV sV
 conv=>arg 2;whnf
 go_wp2_with (go_at_call 13;refine HC.out.mono ?_;rintro e V ⟨rfl,hb⟩;have HV:=qh (Ad HB.out hb);clear hb);exact HQ.out _ _ _ _ _ _ _ _ _ _ _ _ _ _ _ _ _ _ _ _ _ _ _ _ _ _ _ _ _ _ _ _ HV.out
def zeroL:Ls:=⟨[],0,0,0,0,0,none,0,[],none,0,[],none,0,[],none,0,[],none,0,[],none,0,[]⟩
theorem IE(W:World):zeroL.At W:=⟨IsRow.nil,IsRow.nil,IsRow.nil,IsRow.nil,Or.inl rfl,Nat.zero_le _,trivial,Or.inl rfl,Nat.zero_le _,trivial⟩
theorem Lj:AE zeroL []=170:=by kernel_rfl
theorem JF:BV zeroL.strip []=170:=by kernel_rfl
theorem TU(x1 x2 x3 x4:Ls)(n1 n2 n3 n4:List Int)(X1 X2 X3 X4:Nat)(w W:World)(hE:∀V,Below w.heap.size w V→Env V)(hb:Below w.heap.size w W)(b1:Bx x1 n1 X1 W)(b2:Bx x2 n2 X2 W)(b3:Bx x3 n3 X3 W)(b4:Bx x4 n4 X4 W)(s1:AE x1 n1=0)(s2:AE x2 n2=180)(s3:AE x3 n3=180)(s4:AE x4 n4=180):
  (Ab 13 AK).wp Tryz.prog (bodyPost Tryz.prog Tryz.f5 (λe w'=>e=.returned (.bool true)∧Below w.heap.size w w')) { tmps:=#[e0,.pointer (some ⟨X1,0,none⟩),e2,e3,e4,e5,e6,e7,e8,.pointer (some ⟨X2,0,none⟩),ea,eb,ec,.pointer (some ⟨X3,0,none⟩),.pointer (some ⟨X4,0,none⟩),ed,ee,ef,eg,eh,ei,ej,ek,el,em,en,eo,ep,eq,er,es,et,eu,ev,ew,ex,ey,ez,eA,eB,eC,eD,eE,eF,eG,eH,eI,eJ,eK,eL,eM,eN,eO,eP,eQ,eR,eS,eT,eU,eV,eW,eX,eY,eZ,aa,ab,ac,ae,af,ag,ah,ai,aj,ak,al,am,an,ao,ap,aq,ar,au,av,aw,ax,ay,az,aA,aB,aC,aD,aE,aF,aG,aH,aI,aJ,aK,aL,aM,aN,aO,aP,aQ,aR,aS,aT,aU,aV,aW,aX,aY,aZ,ba,bb,bc,bd,be,bf,bg,bh],defers:=[] } W:=by
 have HE:=qh hE;have hA:=qh hb;have hF:=qh b1;have hD:=qh b2;have hC:=qh b3;have hB:=qh b4;have hG:=qh s1;have hH:=qh s2;have hI:=qh s3;have hJ:=qh s4;clear hE hb b1 b2 b3 b4 s1 s2 s3 s4
 conv=>arg 2;whnf
 have st0:True:=trivial
 go_wp2_with (first
  | (have q:=st0;clear q;(refine wpList_load_row rfl 30 _ rfl X1 rfl 30 x1.cells (0,0) _ hF.out.box Tryz.underlying30 rfl (by kernel_rfl) ?_;simp only [Act.put,qD,qE,qF]);clear st0;have st1:True:=trivial)
  | (have q:=st1;clear q;go_at_call 7;refine (Ds x1 n1 _ hF.out.at_ hF.out.ns (HE.out _ hA.out)).mono ?_;unfold Eo;rw [hG.out];rintro e U1 ⟨rfl,hv⟩;have C2:=qh (hD.out.next hv);clear hD;have hD:=C2;clear C2;have C3:=qh (hC.out.next hv);clear hC;have hC:=C3;clear C3;have C4:=qh (hB.out.next hv);clear hB;have hB:=C4;clear C4;have CBL:=qh (Ad hA.out hv);clear hA;have hA:=CBL;clear CBL hv;clear st1;have st2:True:=trivial)
  | (have q:=st2;clear q;(refine An (by kernel_rfl) 30 _ rfl X2 rfl 30 x2.cells (0,0) _ hD.out.box Tryz.underlying30 rfl (by kernel_rfl) ?_;simp only [Act.put,qD,qE,qF]);clear st2;have st3:True:=trivial)
  | (have q:=st3;clear q;go_at_call 7;refine (Ds x2 n2 _ hD.out.at_ hD.out.ns (HE.out _ hA.out)).mono ?_;unfold Eo;rw [hH.out];rintro e U2 ⟨rfl,hv⟩;have C3:=qh (hC.out.next hv);clear hC;have hC:=C3;clear C3;have C4:=qh (hB.out.next hv);clear hB;have hB:=C4;clear C4;have CBL:=qh (Ad hA.out hv);clear hA;have hA:=CBL;clear CBL hv;clear st3;have st4:True:=trivial)
  | (have q:=st4;clear q;(refine An (by kernel_rfl) 30 _ rfl X3 rfl 30 x3.cells (0,0) _ hC.out.box Tryz.underlying30 rfl (by kernel_rfl) ?_;simp only [Act.put,qD,qE,qF]);clear st4;have st5:True:=trivial)
  | (have q:=st5;clear q;go_at_call 7;refine (Ds x3 n3 _ hC.out.at_ hC.out.ns (HE.out _ hA.out)).mono ?_;unfold Eo;rw [hI.out];rintro e U3 ⟨rfl,hv⟩;have C4:=qh (hB.out.next hv);clear hB;have hB:=C4;clear C4;have CBL:=qh (Ad hA.out hv);clear hA;have hA:=CBL;clear CBL hv;clear st5;have st6:True:=trivial)
  | (have q:=st6;clear q;(refine An (by kernel_rfl) 30 _ rfl X4 rfl 30 x4.cells (0,0) _ hB.out.box Tryz.underlying30 rfl (by kernel_rfl) ?_;simp only [Act.put,qD,qE,qF]);clear st6;have st7:True:=trivial)
  | (have q:=st7;clear q;go_at_call 7;refine (Ds x4 n4 _ hB.out.at_ hB.out.ns (HE.out _ hA.out)).mono ?_;unfold Eo;rw [hJ.out];rintro e U4 ⟨rfl,hv⟩;have CBL:=qh (Ad hA.out hv);clear hA;have hA:=CBL;clear CBL hv;clear st7;have st8:True:=trivial)
  | (have q:=st8;clear q;go_at_call 7;refine (Ds zeroL [] _ (IE _) trivial (HE.out _ hA.out)).mono ?_;unfold Eo;rw [Lj];rintro e U5 ⟨rfl,hv⟩;have CBL:=qh (Ad hA.out hv);clear hA;have hA:=CBL;clear CBL hv;clear st8;have st9:True:=trivial)
  | (have q:=st9;clear q;go_at_call 16;refine (GA zeroL [] _ (IE _) trivial (HE.out _ hA.out)).mono ?_;unfold F5;rw [JF];rintro e U6 ⟨rfl,hv⟩;have CBL:=qh (Ad hA.out hv);clear hA;have hA:=CBL;clear CBL hv;clear st9;have st10:True:=trivial)
  | (have q:=st10;clear q;go_at_call 16;refine (GA zeroL [] _ (IE _) trivial (HE.out _ hA.out)).mono ?_;unfold F5;rw [JF];rintro e U7 ⟨rfl,hv⟩;have CBL:=qh (Ad hA.out hv);clear hA;have hA:=CBL;clear CBL hv;clear st10;have st11:True:=trivial))
 go_ret;exact ⟨rfl,hA.out⟩
end
section
open Go Go.RowKit Go.Deep
theorem FJ{α:Type}{l:List α}{q:α→Bool}{x:α}(hx:x∈l)(h:q x=false):l.all q=false:=by
 rw [← Bool.not_eq_true,List.all_eq_true];intro h2;rw [h2 x hx] at h;cases h
theorem Nf{T:Lt}{b:Bool}(h:T.strip.exB=b)(hk:T.strip.kinds=true)(ia:Option Addr)(ic:Nat)(ns:List Int)(W:World)(h1:T.len=0∨ia=some ⟨blk ia,off ia,none⟩)(h2:T.len≤maxLen)(h3:T.At W (blk ia) (off ia))(h4:NsAt W (T.refsL (blk ia) (off ia)) ns):Calls Tryz.prog 28 #[.slice ia T.len ic] W (Kf b W):=by
 rw [← h];exact KH T.size T (qn _) hk ia ic ns W h1 h2 h3 h4
theorem Lq(s:Ls)(ns:List Int)(w:World)(hA:s.At w)(hN:NsAt w s.refs ns)(HM:∀V,Below w.heap.size w V→Calls Tryz.prog 31 #[s.val] V (F5 s.strip ns V)):Calls Tryz.prog 8 #[s.val] w (Eo s ns w):=by
 obtain ⟨W0,Hf,gB,b0,s0⟩:=Ag w s.cells 30;have C:=LN s ns W0 (hA.below b0) (hN.below b0) (λV hV=>HM V (Ad b0 hV));have hJ:=qh (λV (hV:Below w.heap.size w V) (hl:s.roles.length≤1000000)=>LZ s V (hA.below hV) hl);have hn:=qh (λV (hV:Below w.heap.size w V)=>JW s.bars s.tempos s.pauses s.spans s.ta s.ua s.sa _ _ _ s.tc s.uc s.sc V rfl rfl rfl (hA.below hV).tempos (hA.below hV).pauses (hA.below hV).spans);have hv:s.val=.agg s.cells:=rfl;rw [hv];have HX:=qh gB;have HC:=qh C;have HA:=qh hA;have HN:=qh hN;have HB:=qh b0;unfold Ls.cells at Hf ⊢;clear hA hN HM gB b0 C hv s0;obtain ⟨c,hc⟩:∃c,BV s.strip ns=c:=⟨_,rfl⟩;have hE:=qh hc;unfold Of at HC;rw [hc] at HC;clear hc;have st0:True:=trivial;by_cases hz:c=0
 case neg =>
  have hl:AE s ns=c:=by unfold AE;rw [hE.out,if_neg hz]
  have ho:=qh hl;have hq:(c != 0)=true:=by simpa using hz
  clear hl hz;generalize decide (Cj s ns≠[])=lb at *;go_enter Tryz.func8,Tryz.ntmps8
  go_wp2_with (first|(have q:=st0;clear q st0;refine An (by kernel_rfl) 30 _ rfl w.heap.size rfl 30 s.cells (0,0) _ HX.out Tryz.underlying30 rfl (by kernel_rfl) ?_;simp only [Act.put,qD,qE,qF])|(go_at_call 10;refine HC.out.mono ?_;rintro e V ⟨v,rfl,hD,hv⟩;have HV:=qh (Ad HB.out hv);have hF:=qh (Ah hv HX.out);have st1:True:=trivial;clear hD hv));go_ret;exact ⟨by rw [ho.out];rfl,HV.out⟩
 subst hz;have hs:Cj s ns=Bq (s.nexts (AA s.strip)):=by unfold Cj;rw [if_pos hE.out]
 have HO:AE s ns=if G2 s (AA s.strip) then 0 else 180:=by unfold AE;rw [if_pos hE.out]
 have ht:=Gq s (AA s.strip);rw [← hs] at ht;have ho:=qh hs;have hR:=qh HO;have hS:=qh ht;have hT:=qh (λV (hV:Below w.heap.size w V)=>hJ.out V hV (by have:=(C9 hE.out).1;omega));clear hs HO ht hJ;have hJ:=hT;clear hT;by_cases hr:Cj s ns=[]
 case neg =>
  rw [decide_eq_true (show Cj s ns≠[] from hr)] at HC;have HF:=qh (show AE s ns=180 by rw [hR.out,hS.out,decide_eq_false hr];rfl);clear hr;go_enter Tryz.func8,Tryz.ntmps8
  go_wp2_with (first|(have q:=st0;clear q st0;refine An (by kernel_rfl) 30 _ rfl w.heap.size rfl 30 s.cells (0,0) _ HX.out Tryz.underlying30 rfl (by kernel_rfl) ?_;simp only [Act.put,qD,qE,qF])|(go_at_call 10;refine HC.out.mono ?_;rintro e V ⟨v,rfl,hD,hv⟩;have HV:=qh (Ad HB.out hv);have hF:=qh (Ah hv HX.out);have st1:True:=trivial;clear hD hv));go_ret;exact ⟨by rw [HF.out];rfl,HV.out⟩
 rw [decide_eq_false (show ¬Cj s ns≠[] from λh=>h hr)] at HC;have HQ:=qh hr;clear hr;obtain ⟨pb,hu⟩:∃pb,DT s=pb:=⟨_,rfl⟩;have HR:=qh hu;rw [hu] at hJ;clear hu
 cases pb with
 | false =>
  have HF:=qh (show AE s ns=180 by rw [hR.out,hS.out,HR.out];simp);go_enter Tryz.func8,Tryz.ntmps8
  go_wp2_with (first|(have q:=st0;clear q st0;refine An (by kernel_rfl) 30 _ rfl w.heap.size rfl 30 s.cells (0,0) _ HX.out Tryz.underlying30 rfl (by kernel_rfl) ?_;simp only [Act.put,qD,qE,qF])|(go_at_call 10;refine HC.out.mono ?_;rintro e V ⟨v,rfl,hD,hv⟩;have HV:=qh (Ad HB.out hv);have hF:=qh (Ah hv HX.out);have st1:True:=trivial;clear hD hv)|(have q:=st1;clear q st1;refine An (by kernel_rfl) 30 _ rfl w.heap.size rfl 30 s.cells (0,0) _ hF.out Tryz.underlying30 rfl (by kernel_rfl) ?_;simp only [Act.put,qD,qE,qF])|(go_at_call 25;refine (hJ.out _ HV.out).mono ?_;rintro e V2 ⟨rfl,hv⟩;have hU:=qh (Ad HV.out hv);have hO:=qh (Ah hv hF.out);have st2:True:=trivial;clear hv));go_ret;exact ⟨by rw [HF.out];rfl,hU.out⟩
 | true =>
 obtain ⟨c2,hw⟩:∃c2,CW ⟨s.bars,s.tempos,s.pauses,s.spans⟩=c2:=⟨_,rfl⟩;have hy:=qh hw;rw [hw] at hn;clear hw;by_cases ha:c2=0
 case neg =>
  have HF:=qh (show AE s ns=180 by rw [hR.out,hS.out,hy.out,decide_eq_false ha];simp);have hq:(c2 != 0)=true:=by simpa using ha
  clear ha;go_enter Tryz.func8,Tryz.ntmps8
  go_wp2_with (first|(have q:=st0;clear q st0;refine An (by kernel_rfl) 30 _ rfl w.heap.size rfl 30 s.cells (0,0) _ HX.out Tryz.underlying30 rfl (by kernel_rfl) ?_;simp only [Act.put,qD,qE,qF])|(go_at_call 10;refine HC.out.mono ?_;rintro e V ⟨v,rfl,hD,hv⟩;have HV:=qh (Ad HB.out hv);have hF:=qh (Ah hv HX.out);have st1:True:=trivial;clear hD hv)|(have q:=st1;clear q st1;refine An (by kernel_rfl) 30 _ rfl w.heap.size rfl 30 s.cells (0,0) _ hF.out Tryz.underlying30 rfl (by kernel_rfl) ?_;simp only [Act.put,qD,qE,qF])|(go_at_call 25;refine (hJ.out _ HV.out).mono ?_;rintro e V2 ⟨rfl,hv⟩;have hU:=qh (Ad HV.out hv);have hO:=qh (Ah hv hF.out);have st2:True:=trivial;clear hv)|(have q:=st2;clear q st2;refine An (by kernel_rfl) 30 _ rfl w.heap.size rfl 30 s.cells (0,0) _ hO.out Tryz.underlying30 rfl (by kernel_rfl) ?_;simp only [Act.put,qD,qE,qF])|(go_at_call 27;refine (IZ s _).mono ?_;rintro e V3 ⟨rfl,hv⟩;have hW:=qh (Ad hU.out hv);have h0:=qh (Ah hv hO.out);clear hv)|(go_at_call 26;refine (hn.out _ hW.out).mono ?_;rintro e V4 ⟨rfl,hv⟩;have he:=qh (Ad hW.out hv);have h1:=qh (Ah hv h0.out);have st3:True:=trivial;clear hv));go_ret;exact ⟨by rw [HF.out];rfl,he.out⟩
 subst ha;go_enter Tryz.func8,Tryz.ntmps8
 go_wp2_with (first|(have q:=st0;clear q st0;refine An (by kernel_rfl) 30 _ rfl w.heap.size rfl 30 s.cells (0,0) _ HX.out Tryz.underlying30 rfl (by kernel_rfl) ?_;simp only [Act.put,qD,qE,qF])|(go_at_call 10;refine HC.out.mono ?_;rintro e V ⟨v,rfl,hD,hv⟩;have HV:=qh (Ad HB.out hv);have hF:=qh (Ah hv HX.out);have st1:True:=trivial;clear hD hv)|(have q:=st1;clear q st1;refine An (by kernel_rfl) 30 _ rfl w.heap.size rfl 30 s.cells (0,0) _ hF.out Tryz.underlying30 rfl (by kernel_rfl) ?_;simp only [Act.put,qD,qE,qF])|(go_at_call 25;refine (hJ.out _ HV.out).mono ?_;rintro e V2 ⟨rfl,hv⟩;have hU:=qh (Ad HV.out hv);have hO:=qh (Ah hv hF.out);have st2:True:=trivial;clear hv)|(have q:=st2;clear q st2;refine An (by kernel_rfl) 30 _ rfl w.heap.size rfl 30 s.cells (0,0) _ hO.out Tryz.underlying30 rfl (by kernel_rfl) ?_;simp only [Act.put,qD,qE,qF])|(go_at_call 27;refine (IZ s _).mono ?_;rintro e V3 ⟨rfl,hv⟩;have hW:=qh (Ad hU.out hv);have h0:=qh (Ah hv hO.out);clear hv)|(go_at_call 26;refine (hn.out _ hW.out).mono ?_;rintro e V4 ⟨rfl,hv⟩;have he:=qh (Ad hW.out hv);have h1:=qh (Ah hv h0.out);have st3:True:=trivial;clear hv));have HS:Hid (AE s ns=if (s.phrases.all (λp=>p.its.strip.exB)&&s.dances.all (Ch s (AA s.strip) (BF s.itsL (AA s.strip))))=true then 0 else 180):=qh (by rw [hR.out,hS.out,HR.out,hy.out,decide_eq_true HQ.out];simp);obtain ⟨n,hf⟩:∃n,s.phrases.length=n:=⟨_,rfl⟩;have Hg:n≤64:=by rw [← hf];exact (C9 hE.out).2.1
 have y10:V4.cell? ⟨w.heap.size,10,none⟩=some (.slice s.fa n s.fc):=by rw [← hf];exact Aa h1.out 10 rfl
 have hX:=qh hf;have h2:=qh y10;clear hf y10 hR hS;go_loopw [6] (λiv wr=>∃i:Nat,iv=int i64 i∧i≤n∧Hid (∀p∈s.phrases.take i,p.its.strip.exB=true)∧Hid (Below V4.heap.size V4 wr)) (λiv _=>n+1-(intOf iv).toNat)
 case atStart=>exact ⟨0,rfl,Nat.zero_le _,qh (by simp),qh (Below.refl _ _)⟩
 case round =>
  obtain ⟨i,rfl,Hh,hP,hB⟩:=hrel;have yb:=Ac hB.out h2.out;by_cases hg:i<n
  ·have hi:(i:Int)<(n:Int):=by omega
   obtain ⟨p,hp⟩:∃p,s.phrases[i]?=some p:=⟨_,qg (by rw [hX.out];exact hg)⟩;have hG:=Ad he.out hB.out;obtain ⟨Hi,c1,p1,p2,p3,p4⟩:=PR (HA.out.below hG) (EC hE.out (HN.out.below hG)) hp;obtain ⟨xb,h3⟩:∃xb,p.its.strip.exB=xb:=⟨_,rfl⟩;obtain ⟨nsx,p5⟩:=p4.ns
   have HT:p.its.strip.kinds=true:=by
    obtain ⟨_,_,_,hk,_⟩:=E2 hE.out;unfold Sc.kinds at hk;rw [List.all_eq_true] at hk;exact hk p.strip (List.mem_map.2 ⟨p,List.mem_of_getElem? hp,rfl⟩)
   have HU:=qh (Nf h3 HT p.ia p.ic nsx wr p1 p2 p3 p5);have HP:=qh hp;have HW:=qh h3;have h4:=qh hG;clear hp hG p1 p2 p3 p4 p5 HT h3;generalize h5:blk s.fa=bf at *;generalize h6:off s.fa=of_ at *;generalize h7:s.fa=fa at *;subst Hi;clear h5 h6 h7
   cases xb with
   | false =>
    have HF:=qh (show AE s ns=180 by rw [HS.out,FJ (q:=λp:Ph=>p.its.strip.exB) (List.mem_of_getElem? HP.out) HW.out];rfl)
    go_wp2_with (go_at_call 28;refine HU.out.mono ?_;rintro e w5 ⟨rfl,hI⟩;have hL:=qh hI;clear hI);go_ret;exact ⟨by rw [HF.out];rfl,Ad h4.out hL.out⟩
   | true =>
    go_wp2_with (go_at_call 28;refine HU.out.mono ?_;rintro e w5 ⟨rfl,hI⟩;have hL:=qh hI;clear hI);go_roundw
    case rel=>exact ⟨i+1,by go_num,by omega,qh (Dt hP.out HP.out HW.out),qh (Ad hB.out hL.out)⟩
    case measure=>simp [intOf];omega
  have:i=n:=by omega
  subst this;have hz:¬(i:Int)<(i:Int):=by omega
  have h8:s.phrases.all (λp=>p.its.strip.exB)=true:=List.all_eq_true.2 (λx hx=>hP.out x (by rw [List.take_of_length_le (by rw [hX.out];exact qn _)];exact hx));have HZ:Hid (PhL s (AA s.strip) (DB (s.nexts (AA s.strip))) (BF s.itsL (AA s.strip)) i):=qh (by rw [← hX.out];exact PU hE.out (by have:=HQ.out;rw [ho.out] at this;exact this) h8);have h9:Hid (AE s ns=if s.dances.all (Ch s (AA s.strip) (BF s.itsL (AA s.strip)))=true then 0 else 180):=qh (by rw [HS.out,h8];rfl);have hG:=Ad he.out hB.out;have HE:=qh (Ah hB.out h1.out);have Hj:=qh (EL s (AA s.strip) _ (BF s.itsL (AA s.strip)) i wr (HA.out.below hG) (EC hE.out (HN.out.below hG)) (by omega) HZ.out);have h4:=qh hG;have st9:True:=trivial;clear h8 hG hP hg Hh
  go_wp2_with (first|(have q:=st9;clear q st9;refine An (by kernel_rfl) 30 _ rfl w.heap.size rfl 30 s.cells (0,0) _ HE.out Tryz.underlying30 rfl (by kernel_rfl) ?_;simp only [Act.put,qD,qE,qF])|(go_at_call 29;refine Hj.out.mono ?_;rintro e V5 ⟨G,ls,rfl,hD,hY,hZ,hI,HG⟩;have hL:=qh hI;have hM:=qh (And.intro hD (And.intro hY hZ));clear hI hD hY hZ HG));obtain ⟨m,hh⟩:∃m,s.dances.length=m:=⟨_,rfl⟩;have y11:V5.cell? ⟨w.heap.size,11,none⟩=some (.slice s.da m s.dc):=by rw [← hh];exact Aa (Ah hL.out HE.out) 11 rfl
  have y3:V5.cell? ⟨w.heap.size,3,none⟩=some (int i64 s.bars):=Aa (Ah hL.out HE.out) 3 rfl;have Ha:=qh hh;have HY:=qh (And.intro y11 y3);have Hk:=Kr hy.out;obtain ⟨Hl,Hm⟩:=Hk;have Hb:m≤256:=by rw [← hh];exact (C9 hE.out).2.2
  have hH:=qh (Ad h4.out hL.out);clear hh y11 y3 hz;go_loopw [8] (λiv wr=>∃j:Nat,iv=int i64 j∧j≤m∧Hid (∀d∈s.dances.take j,Ch s (AA s.strip) (BF s.itsL (AA s.strip)) d=true)∧Hid (Below V5.heap.size V5 wr)) (λiv _=>m+1-(intOf iv).toNat)
  case atStart=>exact ⟨0,rfl,Nat.zero_le _,qh (by simp),qh (Below.refl _ _)⟩
  case round =>
   clear hB;obtain ⟨j,rfl,Hs,hP,hB⟩:=hrel;have y11:=Ac hB.out HY.out.1;have y3':=Ac hB.out HY.out.2;by_cases hg:j<m
   ·have hj:(j:Int)<(m:Int):=by omega
    obtain ⟨d,hd⟩:∃d,s.dances[j]?=some d:=⟨_,qg (by rw [Ha.out];exact hg)⟩;have HH:=HA.out.below (Ad hH.out hB.out);have Hc:=JR hE.out (HN.out.below (Ad hH.out hB.out));obtain ⟨u1,e0,e1,e2,e3,e4,e5⟩:=FL HH.dances (λx hx=>Hc x (by unfold Ls.refs;exact List.mem_append.2 (Or.inr hx))) hd;obtain ⟨k,hk,hQ⟩:=FM hE.out (List.mem_of_getElem? hd);rw [hX.out] at hQ;rw [hk] at e3;have Hn:=HH.dform.resolve_left (λe=>by rw [e] at hd;simp at hd);obtain ⟨W2,Ht,gW2,bW2,sW2⟩:=Ag wr #[sv d.rn,int i64 u1,sv d.pn,int i64 k,int i64 d.bar,.bool d.mirror] 53;have z4:W2.cell? ⟨wr.heap.size,4,none⟩=some (int i64 d.bar):=Aa gW2 4 rfl;have z3:W2.cell? ⟨wr.heap.size,3,none⟩=some (int i64 k):=Aa gW2 3 rfl;have y3:=Ac bW2 y3';have zg:W2.cell? ⟨G,k,none⟩=some (int i64 (gi ls k)):=Ac bW2 (Ac hB.out (hM.out.1.cell (by rw [hM.out.2.1];exact hQ)));have HI:=hM.out.2.2 k hQ;obtain ⟨gb0,gb1⟩:=HZ.out.ok.bound k (by rw [hX.out];exact hQ);rw [← HI] at gb0 gb1;have Hd:Ch s (AA s.strip) (BF s.itsL (AA s.strip)) d=(inB d.bar 0 (s.bars-1)&&decide (d.bar+gi ls k≤s.bars)):=by unfold Ch;rw [hk,HI]
    have HD:=qh hd;have HJ:=qh Hd;have Ho:=qh bW2;have hm:=qh (Ad (Ad hH.out hB.out) bW2);have Hp:(k:Int)<(i:Int):=by omega
    have HK:IntKind.i64.wrap (s.bars-1)=s.bars-1:=IntWalk.i64_in _ (by omega);clear hd HH Hc Hd bW2 sW2 gW2 HI hk;generalize gi ls k=gl at *;generalize d.bar=bar at *;generalize h5:blk s.da=bf at *;generalize h6:off s.da=of_ at *;generalize h7:s.da=da at *;subst Hn;clear h5 h6 h7
    cases hq:inB bar 0 (s.bars-1) with
    | false =>
     have HF:=qh (show AE s ns=180 by rw [h9.out,FJ (List.mem_of_getElem? HD.out) (by rw [HJ.out,hq];rfl)];rfl);go_wp2_with fail;refine wp_region_held (S:=λV=>Below W2.heap.size W2 V) (by kernel_rfl) ?_;change wpAnyH _ _ _ _ _ _ _ _ W2.drew;have hC:Below W2.heap.size W2 W2.drew:=(Below.refl _ W2).drew;generalize W2.drew=Wd at *;refine tk 0 _ (.pointer (some ⟨wr.heap.size,4,none⟩)) rfl (λV hb=>by go_simp) hC ?_
     try simp only [Act.put,qA,qB,qC,qD,qE,qF]
     refine tk 1 _ (int i64 bar) rfl (λV hb=>by have q0:=Ac hb z4;go_simp) hC ?_
     try simp only [Act.put,qA,qB,qC,qD,qE,qF]
     refine tk 2 _ (.pointer (some ⟨w.heap.size,3,none⟩)) rfl (λV hb=>by go_simp) hC ?_
     try simp only [Act.put,qA,qB,qC,qD,qE,qF]
     refine tk 3 _ (int i64 s.bars) rfl (λV hb=>by have q0:=Ac hb y3;go_simp) hC ?_
     try simp only [Act.put,qA,qB,qC,qD,qE,qF]
     refine tk 4 _ (int i64 (s.bars-1)) rfl (λV hb=>by have q0:=HK;go_simp) hC ?_
     try simp only [Act.put,qA,qB,qC,qD,qE,qF]
     refine tr 5 _ (by kernel_rfl) rfl λK1 hK=>?_
     go_simp;refine (AG (by assumption) _).mono ?_;rintro e w5 ⟨rfl,rfl⟩;refine hK.out _ _ hC (λ_=>?_);clear hK K1
     try simp only [Act.put,qA,qB,qC,qD,qE,qF]
     refine tk 6 _ (.bool true) rfl (λV hb=>by go_simp) hC ?_
     try simp only [Act.put,qA,qB,qC,qD,qE,qF]
     refine tk 7 _ (.bool true) rfl (λV hb=>by go_simp) hC ?_
     try simp only [Act.put,qA,qB,qC,qD,qE,qF]
     refine tq 8 _ undef rfl (by kernel_rfl) (λ_ _ _ h=>h) (Or.inr ⟨by kernel_rfl,rfl⟩) hC ?_
     try simp only [Act.put,qA,qB,qC,qD,qE,qF]
     refine tq 9 _ undef rfl (by kernel_rfl) (λ_ _ _ h=>h) (Or.inr ⟨by kernel_rfl,rfl⟩) hC ?_
     try simp only [Act.put,qA,qB,qC,qD,qE,qF]
     refine tq 10 _ undef rfl (by kernel_rfl) (λ_ _ _ h=>h) (Or.inr ⟨by kernel_rfl,rfl⟩) hC ?_
     try simp only [Act.put,qA,qB,qC,qD,qE,qF]
     refine tq 11 _ undef rfl (by kernel_rfl) (λ_ _ _ h=>h) (Or.inr ⟨by kernel_rfl,rfl⟩) hC ?_
     try simp only [Act.put,qA,qB,qC,qD,qE,qF]
     refine tq 12 _ undef rfl (by kernel_rfl) (λ_ _ _ h=>h) (Or.inr ⟨by kernel_rfl,rfl⟩) hC ?_
     try simp only [Act.put,qA,qB,qC,qD,qE,qF]
     refine tq 13 _ undef rfl (by kernel_rfl) (λ_ _ _ h=>h) (Or.inr ⟨by kernel_rfl,rfl⟩) hC ?_
     try simp only [Act.put,qA,qB,qC,qD,qE,qF]
     refine tq 14 _ undef rfl (by kernel_rfl) (λ_ _ _ h=>h) (Or.inr ⟨by kernel_rfl,rfl⟩) hC ?_
     try simp only [Act.put,qA,qB,qC,qD,qE,qF]
     refine tq 15 _ undef rfl (by kernel_rfl) (λ_ _ _ h=>h) (Or.inr ⟨by kernel_rfl,rfl⟩) hC ?_
     try simp only [Act.put,qA,qB,qC,qD,qE,qF]
     refine tq 16 _ undef rfl (by kernel_rfl) (λ_ _ _ h=>h) (Or.inr ⟨by kernel_rfl,rfl⟩) hC ?_
     try simp only [Act.put,qA,qB,qC,qD,qE,qF]
     refine tq 17 _ undef rfl (by kernel_rfl) (λ_ _ _ h=>h) (Or.inr ⟨by kernel_rfl,rfl⟩) hC ?_
     try simp only [Act.put,qA,qB,qC,qD,qE,qF]
     refine tq 18 _ undef rfl (by kernel_rfl) (λ_ _ _ h=>h) (Or.inr ⟨by kernel_rfl,rfl⟩) hC ?_
     try simp only [Act.put,qA,qB,qC,qD,qE,qF]
     refine tq 19 _ undef rfl (by kernel_rfl) (λ_ _ _ h=>h) (Or.inr ⟨by kernel_rfl,rfl⟩) hC ?_
     try simp only [Act.put,qA,qB,qC,qD,qE,qF]
     refine tk 20 _ (.bool true) rfl (λV hb=>by go_simp) hC ?_
     try simp only [Act.put,qA,qB,qC,qD,qE,qF]
     refine wpAnyH_done (by kernel_rfl) ?_ _;go_wp2_with fail;go_ret;exact ⟨by rw [HF.out];rfl,(hm.out.trans (hC.mono hm.out.size))⟩
    | true =>
     have Hu:=AR.1 hq;have He:IntKind.i64.wrap (bar+gl)=bar+gl:=IntWalk.i64_in _ (by omega);rcases Di (s.bars<bar+gl) with HL|HL
     ·have HF:=qh (show AE s ns=180 by rw [h9.out,FJ (List.mem_of_getElem? HD.out) (by rw [HJ.out,hq,decide_eq_false (by omega)];rfl)];rfl)
      go_wp2_with fail;refine wp_region_held (S:=λV=>Below W2.heap.size W2 V) (by kernel_rfl) ?_;change wpAnyH _ _ _ _ _ _ _ _ W2.drew;have hC:Below W2.heap.size W2 W2.drew:=(Below.refl _ W2).drew;generalize W2.drew=Wd at *;refine tk 0 _ (.pointer (some ⟨wr.heap.size,4,none⟩)) rfl (λV hb=>by go_simp) hC ?_
      try simp only [Act.put,qA,qB,qC,qD,qE,qF]
      refine tk 1 _ (int i64 bar) rfl (λV hb=>by have q0:=Ac hb z4;go_simp) hC ?_
      try simp only [Act.put,qA,qB,qC,qD,qE,qF]
      refine tk 2 _ (.pointer (some ⟨w.heap.size,3,none⟩)) rfl (λV hb=>by go_simp) hC ?_
      try simp only [Act.put,qA,qB,qC,qD,qE,qF]
      refine tk 3 _ (int i64 s.bars) rfl (λV hb=>by have q0:=Ac hb y3;go_simp) hC ?_
      try simp only [Act.put,qA,qB,qC,qD,qE,qF]
      refine tk 4 _ (int i64 (s.bars-1)) rfl (λV hb=>by have q0:=HK;go_simp) hC ?_
      try simp only [Act.put,qA,qB,qC,qD,qE,qF]
      refine tr 5 _ (by kernel_rfl) rfl λK1 hK=>?_
      go_simp;refine (AG (by assumption) _).mono ?_;rintro e w5 ⟨rfl,rfl⟩;refine hK.out _ _ hC (λ_=>?_);clear hK K1
      try simp only [Act.put,qA,qB,qC,qD,qE,qF]
      refine tk 6 _ (.bool false) rfl (λV hb=>by go_simp) hC ?_
      try simp only [Act.put,qA,qB,qC,qD,qE,qF]
      refine tk 7 _ (.bool false) rfl (λV hb=>by go_simp) hC ?_
      try simp only [Act.put,qA,qB,qC,qD,qE,qF]
      refine tk 8 _ (.pointer (some ⟨wr.heap.size,4,none⟩)) rfl (λV hb=>by go_simp) hC ?_
      try simp only [Act.put,qA,qB,qC,qD,qE,qF]
      refine tk 9 _ (int i64 bar) rfl (λV hb=>by have q0:=Ac hb z4;go_simp) hC ?_
      try simp only [Act.put,qA,qB,qC,qD,qE,qF]
      refine tk 10 _ (.slice (some ⟨G,0,none⟩) i i) rfl (λV hb=>by go_simp) hC ?_
      try simp only [Act.put,qA,qB,qC,qD,qE,qF]
      refine tk 11 _ (.pointer (some ⟨wr.heap.size,2,none⟩)) rfl (λV hb=>by go_simp) hC ?_
      try simp only [Act.put,qA,qB,qC,qD,qE,qF]
      refine tk 12 _ (.pointer (some ⟨wr.heap.size,3,none⟩)) rfl (λV hb=>by go_simp) hC ?_
      try simp only [Act.put,qA,qB,qC,qD,qE,qF]
      refine tk 13 _ (int i64 (k:Nat)) rfl (λV hb=>by have q0:=Ac hb z3;go_simp) hC ?_
      try simp only [Act.put,qA,qB,qC,qD,qE,qF]
      refine tk 14 _ (.pointer (some ⟨G,k,none⟩)) rfl (λV hb=>by have q0:=hQ;go_simp) hC ?_
      try simp only [Act.put,qA,qB,qC,qD,qE,qF]
      refine tk 15 _ (int i64 gl) rfl (λV hb=>by have q0:=Ac hb zg;go_simp) hC ?_
      try simp only [Act.put,qA,qB,qC,qD,qE,qF]
      refine tk 16 _ (int i64 (bar+gl)) rfl (λV hb=>by have q0:=He;go_simp) hC ?_
      try simp only [Act.put,qA,qB,qC,qD,qE,qF]
      refine tk 17 _ (.pointer (some ⟨w.heap.size,3,none⟩)) rfl (λV hb=>by go_simp) hC ?_
      try simp only [Act.put,qA,qB,qC,qD,qE,qF]
      refine tk 18 _ (int i64 s.bars) rfl (λV hb=>by have q0:=Ac hb y3;go_simp) hC ?_
      try simp only [Act.put,qA,qB,qC,qD,qE,qF]
      refine tk 19 _ (.bool true) rfl (λV hb=>by have q0:=HL;go_simp) hC ?_
      try simp only [Act.put,qA,qB,qC,qD,qE,qF]
      refine tk 20 _ (.bool true) rfl (λV hb=>by go_simp) hC ?_
      try simp only [Act.put,qA,qB,qC,qD,qE,qF]
      refine wpAnyH_done (by kernel_rfl) ?_ _;go_wp2_with fail;go_ret;exact ⟨by rw [HF.out];rfl,(hm.out.trans (hC.mono hm.out.size))⟩
     ·have Hq:=qh (show Ch s (AA s.strip) (BF s.itsL (AA s.strip)) d=true by rw [HJ.out,hq,decide_eq_true (by omega)];rfl)
      go_wp2_with fail;refine wp_region_held (S:=λV=>Below W2.heap.size W2 V) (by kernel_rfl) ?_;change wpAnyH _ _ _ _ _ _ _ _ W2.drew;have hC:Below W2.heap.size W2 W2.drew:=(Below.refl _ W2).drew;generalize W2.drew=Wd at *;refine tk 0 _ (.pointer (some ⟨wr.heap.size,4,none⟩)) rfl (λV hb=>by go_simp) hC ?_
      try simp only [Act.put,qA,qB,qC,qD,qE,qF]
      refine tk 1 _ (int i64 bar) rfl (λV hb=>by have q0:=Ac hb z4;go_simp) hC ?_
      try simp only [Act.put,qA,qB,qC,qD,qE,qF]
      refine tk 2 _ (.pointer (some ⟨w.heap.size,3,none⟩)) rfl (λV hb=>by go_simp) hC ?_
      try simp only [Act.put,qA,qB,qC,qD,qE,qF]
      refine tk 3 _ (int i64 s.bars) rfl (λV hb=>by have q0:=Ac hb y3;go_simp) hC ?_
      try simp only [Act.put,qA,qB,qC,qD,qE,qF]
      refine tk 4 _ (int i64 (s.bars-1)) rfl (λV hb=>by have q0:=HK;go_simp) hC ?_
      try simp only [Act.put,qA,qB,qC,qD,qE,qF]
      refine tr 5 _ (by kernel_rfl) rfl λK1 hK=>?_
      go_simp;refine (AG (by assumption) _).mono ?_;rintro e w5 ⟨rfl,rfl⟩;refine hK.out _ _ hC (λ_=>?_);clear hK K1
      try simp only [Act.put,qA,qB,qC,qD,qE,qF]
      refine tk 6 _ (.bool false) rfl (λV hb=>by go_simp) hC ?_
      try simp only [Act.put,qA,qB,qC,qD,qE,qF]
      refine tk 7 _ (.bool false) rfl (λV hb=>by go_simp) hC ?_
      try simp only [Act.put,qA,qB,qC,qD,qE,qF]
      refine tk 8 _ (.pointer (some ⟨wr.heap.size,4,none⟩)) rfl (λV hb=>by go_simp) hC ?_
      try simp only [Act.put,qA,qB,qC,qD,qE,qF]
      refine tk 9 _ (int i64 bar) rfl (λV hb=>by have q0:=Ac hb z4;go_simp) hC ?_
      try simp only [Act.put,qA,qB,qC,qD,qE,qF]
      refine tk 10 _ (.slice (some ⟨G,0,none⟩) i i) rfl (λV hb=>by go_simp) hC ?_
      try simp only [Act.put,qA,qB,qC,qD,qE,qF]
      refine tk 11 _ (.pointer (some ⟨wr.heap.size,2,none⟩)) rfl (λV hb=>by go_simp) hC ?_
      try simp only [Act.put,qA,qB,qC,qD,qE,qF]
      refine tk 12 _ (.pointer (some ⟨wr.heap.size,3,none⟩)) rfl (λV hb=>by go_simp) hC ?_
      try simp only [Act.put,qA,qB,qC,qD,qE,qF]
      refine tk 13 _ (int i64 (k:Nat)) rfl (λV hb=>by have q0:=Ac hb z3;go_simp) hC ?_
      try simp only [Act.put,qA,qB,qC,qD,qE,qF]
      refine tk 14 _ (.pointer (some ⟨G,k,none⟩)) rfl (λV hb=>by have q0:=hQ;go_simp) hC ?_
      try simp only [Act.put,qA,qB,qC,qD,qE,qF]
      refine tk 15 _ (int i64 gl) rfl (λV hb=>by have q0:=Ac hb zg;go_simp) hC ?_
      try simp only [Act.put,qA,qB,qC,qD,qE,qF]
      refine tk 16 _ (int i64 (bar+gl)) rfl (λV hb=>by have q0:=He;go_simp) hC ?_
      try simp only [Act.put,qA,qB,qC,qD,qE,qF]
      refine tk 17 _ (.pointer (some ⟨w.heap.size,3,none⟩)) rfl (λV hb=>by go_simp) hC ?_
      try simp only [Act.put,qA,qB,qC,qD,qE,qF]
      refine tk 18 _ (int i64 s.bars) rfl (λV hb=>by have q0:=Ac hb y3;go_simp) hC ?_
      try simp only [Act.put,qA,qB,qC,qD,qE,qF]
      refine tk 19 _ (.bool false) rfl (λV hb=>by have q0:=HL;go_simp) hC ?_
      try simp only [Act.put,qA,qB,qC,qD,qE,qF]
      refine tk 20 _ (.bool false) rfl (λV hb=>by go_simp) hC ?_
      try simp only [Act.put,qA,qB,qC,qD,qE,qF]
      refine wpAnyH_done (by kernel_rfl) ?_ _;have Hr:=qh hC;clear hC;go_wp2_with fail;go_roundw
      case rel=>exact ⟨j+1,by go_num,by omega,qh (Dt hP.out HD.out Hq.out),qh (Ad hB.out (Ad Ho.out Hr.out))⟩
      case measure=>simp [intOf];omega
   ·have:j=m:=by omega
    subst this;have hz:¬(j:Int)<(j:Int):=by omega
    have HF:=qh (show AE s ns=0 by rw [h9.out,List.all_eq_true.2 (λx hx=>hP.out x (by rw [List.take_of_length_le (by rw [Ha.out];exact qn _)];exact hx))];rfl);go_wp2_with fail;go_ret;exact ⟨by rw [HF.out];rfl,Ad hH.out hB.out⟩
end
section
open Go Go.RowKit Go.Shelf Go.Deep
structure RK(W V:World)(F X:Nat)(xs cs:Array Value):Prop where
 grow:W.grownBy V (some F)
 f:V.heap[F]?=some (.cells cs 51 (0,0))
 x:V.heap[X]?=some (.cells xs 30 (0,0))
theorem RK.below{W V V':World}{F X:Nat}{xs cs:Array Value}(h:RK W V F X xs cs)(hb:Below V.heap.size V V'):RK W V' F X xs cs:=⟨Bu h.grow (D8 hb),Ah hb h.f,Ah hb h.x⟩
theorem RK.set{W V:World}{F X:Nat}{xs cs:Array Value}(h:RK W V F X xs cs)(hA:X≠F)(i:Nat)(v:Value):RK W (V.setCell ⟨F,i,none⟩ v) F X xs (cs.setIfInBounds i v) :=
 ⟨Bu h.grow ⟨rfl,rfl,rfl,by rw [Fv];exact qn _,λk _ hk=>Ak _ (λe=>hk (by rw [e]))⟩,BN v h.f,by rw [Ak _ hA];exact h.x⟩
theorem RK.start{W:World}{F X:Nat}{xs cs:Array Value}(h1:W.heap[F]?=some (.cells cs 51 (0,0)))(h2:W.heap[X]?=some (.cells xs 30 (0,0))):RK W W F X xs cs:=⟨World.grownBy.refl _ _,h1,h2⟩
abbrev rX(X F:Nat)(V:World):Prop:=V.cell? ⟨X,10,none⟩=some (.slice (some ⟨F,0,none⟩) 2 2)
theorem RK.s{W V:World}{R T M U I0 I1 F D X:Nat}{cs:Array Value}(h:RK W V F X (Dg R T M U I0 I1 F D).cells cs):rX X F V:=Aa h.x 10 rfl
theorem US(R T M U I0 I1 F D X:Nat)(W:World)(hF:W.heap[F]?=some (.cells #[sv [112],.slice (some ⟨I0,0,none⟩) 1 1,sv [113],.slice (some ⟨I1,0,none⟩) 1 1] 51 (0,0)))(hX:W.heap[X]?=some (.cells (Dg R T M U I0 I1 F D).cells 30 (0,0)))(hD:X≠F)(K:Act→World→Prop)
  (hQ:∀(X0 X1:Nat) (V:World),RK W V F X (Dg R T M U I0 I1 F D).cells #[sv [112],.slice (some ⟨X0,0,none⟩) 1 1,sv [113],.slice (some ⟨X1,0,none⟩) 2 2]→V.heap[X0]?=some (.cells #[int i64 4,int i64 0,sv [113],int i64 1,.slice none 0 0,.slice none 0 0] 48 (0,0))→V.heap[X1]?=some (.cells #[int i64 4,int i64 0,sv [113],int i64 1,.slice none 0 0,.slice none 0 0,int i64 4,int i64 0,sv [112],int i64 0,.slice none 0 0,.slice none 0 0] 48 (0,0))→W.heap.size≤X0→W.heap.size≤X1→∀(bk bl bm bn bo bp bq br bs bt bu bv bw:Value),K { tmps:=#[e0,e1,e2,e3,e4,e5,e6,e7,e8,.pointer (some ⟨X,0,none⟩),ea,eb,ec,ed,ee,ef,eg,eh,ei,ej,ek,el,em,en,eo,ep,eq,er,es,et,eu,ev,ew,bk,bl,bm,bn,bo,bp,bq,br,bs,bt,bu,bv,bw,eK,eL,eM,eN,eO,eP,eQ,eR,eS,eT,eU,eV,eW,eX,eY,eZ,aa,ab,ac,ae,af,ag,ah,ai,aj,ak,al,am,an,ao,ap,aq,ar,au,av,aw,ax,ay,az,aA,aB,aC,aD,aE,aF,aG,aH,aI,aJ,aK,aL,aM,aN,aO,aP,aQ,aR,aS,aT,aU,aV,aW,aX,aY,aZ,ba,bb,bc,bd,be,bf,bg,bh,bi,bj],defers:=[] } V) :
  elem25n6.wp Tryz.prog (Exit.then K (λ_ _ _=>False)) { tmps:=#[e0,e1,e2,e3,e4,e5,e6,e7,e8,.pointer (some ⟨X,0,none⟩),ea,eb,ec,ed,ee,ef,eg,eh,ei,ej,ek,el,em,en,eo,ep,eq,er,es,et,eu,ev,ew,ex,ey,ez,eA,eB,eC,eD,eE,eF,eG,eH,eI,eJ,eK,eL,eM,eN,eO,eP,eQ,eR,eS,eT,eU,eV,eW,eX,eY,eZ,aa,ab,ac,ae,af,ag,ah,ai,aj,ak,al,am,an,ao,ap,aq,ar,au,av,aw,ax,ay,az,aA,aB,aC,aD,aE,aF,aG,aH,aI,aJ,aK,aL,aM,aN,aO,aP,aQ,aR,aS,aT,aU,aV,aW,aX,aY,aZ,ba,bb,bc,bd,be,bf,bg,bh,bi,bj],defers:=[] } W:=by
 obtain ⟨wd,hC⟩:∃wd:World,{ W with drawn:=W.drawn+1 }=wd:=⟨_,rfl⟩;have hE:Below W.heap.size W wd:=by rw [← hC];exact (Below.refl _ _).drew
 have HK:=qh ((RK.start hF hX).below hE);have hA:Hid (F<W.heap.size):=qh (qs.1 hF).1;have HQ:=qh hQ;have hG:=qh hC;have hB:=qh hD;clear hQ hC hF hX hD hE
 conv=>arg 2;whnf
 refine wp_region_held (S:=rX X F) (by kernel_rfl) ?_;rw [hG.out];refine tk 0 _ (.pointer (some ⟨X,10,none⟩)) rfl (λV hb=>by go_simp) HK.out.s ?_
 try (simp only [Act.put,List.getElem_toArray,List.getElem_cons_zero,List.setIfInBounds_toArray,List.set_cons_zero,List.set_cons_succ])
 refine tk 1 _ (.slice (some ⟨F,0,none⟩) 2 2) rfl (λV hb=>by have q0:=hb;go_simp) HK.out.s ?_
 try (simp only [Act.put,qA,qB,qC,qD,qE,qF])
 refine tk 2 _ (.pointer (some ⟨X,10,none⟩)) rfl (λV hb=>by go_simp) HK.out.s ?_
 try (simp only [Act.put,qA,qB,qC,qD,qE,qF])
 refine tk 3 _ (.slice (some ⟨F,0,none⟩) 2 2) rfl (λV hb=>by have q0:=hb;go_simp) HK.out.s ?_
 try (simp only [Act.put,qA,qB,qC,qD,qE,qF])
 refine tr 4 _ (by kernel_rfl) rfl λK1 hK=>?_
 go_simp;refine (Kb _).mono ?_;rintro e V4_0 ⟨rfl,hb⟩;have HN:=qh (HK.out.below hb);clear HK hb;refine hK.out _ _ HN.out.s (λ_=>?_);clear hK K1;have HK:=HN;clear HN
 try (simp only [Act.put,qA,qB,qC,qD,qE,qF])
 refine wpAnyH_ready (rs:=[5,6]) (by kernel_rfl) (by simp) ?_;refine AllReadyH.cons (o:=_) rfl (λK1 hK=>?_) (AllReadyH.cons (o:=_) rfl (λK1 hK=>?_) AllReadyH.nil)
 ·obtain ⟨A5_1,xA,gA,bA,sA⟩:=Ag V4_0 #[int i64 4,int i64 0,sv [113],int i64 1,.slice none 0 0,.slice none 0 0] 48
  have HN:=qh (HK.out.below bA);have H0:=qh gA;have L0:Hid (W.heap.size≤V4_0.heap.size):=qh HK.out.grow.size;clear HK gA bA sA;go_simp;clear xA;refine hK.out _ _ HN.out.s (λ_=>?_);clear hK K1;have HK:=HN;clear HN
  try (simp only [Act.put,qA,qB,qC,qD,qE,qF])
  refine tr 6 _ (by kernel_rfl) rfl λK1 hK=>?_
  go_simp;refine (Kb _).mono ?_;rintro e V6_2 ⟨rfl,hb⟩;have HN:=qh (HK.out.below hb);have HT:=qh (Ah hb H0.out);clear H0;have H0:=HT;clear HT;clear HK hb;refine hK.out _ _ HN.out.s (λ_=>?_);clear hK K1;have HK:=HN;clear HN
  try (simp only [Act.put,qA,qB,qC,qD,qE,qF])
  refine tr 7 _ (by kernel_rfl) rfl λK1 hK=>?_
  go_simp;refine (GH _).mono ?_;rintro e V7_3 ⟨rfl,hb⟩;have HN:=qh (HK.out.below hb);have HT:=qh (Ah hb H0.out);clear H0;have H0:=HT;clear HT;clear HK hb;refine hK.out _ _ HN.out.s (λ_=>?_);clear hK K1;have HK:=HN;clear HN
  try (simp only [Act.put,qA,qB,qC,qD,qE,qF])
  refine tk 9 _ (.pointer (some ⟨F,0,none⟩)) rfl (λV hb=>by go_simp) HK.out.s ?_
  try (simp only [Act.put,qA,qB,qC,qD,qE,qF])
  refine tk 10 _ (.pointer (some ⟨F,1,none⟩)) rfl (λV hb=>by go_simp) HK.out.s ?_
  try (simp only [Act.put,qA,qB,qC,qD,qE,qF])
  refine wpAnyH_ready (rs:=[8,11]) (by kernel_rfl) (by simp) ?_;refine AllReadyH.cons (o:=_) rfl (λK1 hK=>?_) (AllReadyH.cons (o:=_) rfl (λK1 hK=>?_) AllReadyH.nil)
  ·obtain ⟨A8_6,xA,gA,bA,sA⟩:=Ag V7_3 #[int i64 4,int i64 0,sv [113],int i64 1,.slice none 0 0,.slice none 0 0,int i64 4,int i64 0,sv [112],int i64 0,.slice none 0 0,.slice none 0 0] 48
   have HN:=qh (HK.out.below bA);have HT:=qh (Ah bA H0.out);clear H0;have H0:=HT;clear HT;have H1:=qh gA;have L1:Hid (W.heap.size≤V7_3.heap.size):=qh HK.out.grow.size;clear HK gA bA sA;go_simp;clear xA;refine hK.out _ _ HN.out.s (λ_=>?_);clear hK K1;have HK:=HN;clear HN
   try (simp only [Act.put,qA,qB,qC,qD,qE,qF])
   refine tr 11 _ (by kernel_rfl) rfl λK1 hK=>?_
   obtain ⟨B11_7,xB⟩:∃B,A8_6.setCell ⟨F,1,none⟩ (.slice (some ⟨V4_0.heap.size,0,none⟩) 1 1)=B:=⟨_,rfl⟩;have cF:A8_6.cell? ⟨F,1,none⟩=some (.slice (some ⟨I0,0,none⟩) 1 1):=(Aa HK.out.f 1 rfl);have fF:A8_6.frozen? ⟨F,1,none⟩=false:=(show FreeB A8_6 F from ⟨_,_,HK.out.f⟩).free 1;have hn:=HK.out.set hB.out 1 (.slice (some ⟨V4_0.heap.size,0,none⟩) 1 1);rw [xB] at hn;have HN:=qh hn;have ht:=Ak (i:=1) (.slice (some ⟨V4_0.heap.size,0,none⟩) 1 1) (show V4_0.heap.size≠F by have:=L0.out;have:=hA.out;omega) (W:=A8_6);rw [xB] at ht;have HT:=qh (ht.trans H0.out);clear H0 ht;have H0:=HT;clear HT;have ht:=Ak (i:=1) (.slice (some ⟨V4_0.heap.size,0,none⟩) 1 1) (show V7_3.heap.size≠F by have:=L1.out;have:=hA.out;omega) (W:=A8_6);rw [xB] at ht;have HT:=qh (ht.trans H1.out);clear H1 ht;have H1:=HT;clear HT;clear HK hn;go_simp;clear xB cF fF;refine hK.out _ _ HN.out.s (λ_=>?_);clear hK K1;have HK:=HN;clear HN
   try (simp only [Act.put,qA,qB,qC,qD,qE,qF])
   refine tk 12 _ (.pointer (some ⟨F,2,none⟩)) rfl (λV hb=>by go_simp) HK.out.s ?_
   try (simp only [Act.put,qA,qB,qC,qD,qE,qF])
   refine tk 13 _ (.pointer (some ⟨F,3,none⟩)) rfl (λV hb=>by go_simp) HK.out.s ?_
   try (simp only [Act.put,qA,qB,qC,qD,qE,qF])
   refine tr 14 _ (by kernel_rfl) rfl λK1 hK=>?_
   obtain ⟨B14_10,xB⟩:∃B,B11_7.setCell ⟨F,3,none⟩ (.slice (some ⟨V7_3.heap.size,0,none⟩) 2 2)=B:=⟨_,rfl⟩;have cF:B11_7.cell? ⟨F,3,none⟩=some (.slice (some ⟨I1,0,none⟩) 1 1):=(Aa HK.out.f 3 rfl);have fF:B11_7.frozen? ⟨F,3,none⟩=false:=(show FreeB B11_7 F from ⟨_,_,HK.out.f⟩).free 3;have hn:=HK.out.set hB.out 3 (.slice (some ⟨V7_3.heap.size,0,none⟩) 2 2);rw [xB] at hn;have HN:=qh hn;have ht:=Ak (i:=3) (.slice (some ⟨V7_3.heap.size,0,none⟩) 2 2) (show V4_0.heap.size≠F by have:=L0.out;have:=hA.out;omega) (W:=B11_7);rw [xB] at ht;have HT:=qh (ht.trans H0.out);clear H0 ht;have H0:=HT;clear HT;have ht:=Ak (i:=3) (.slice (some ⟨V7_3.heap.size,0,none⟩) 2 2) (show V7_3.heap.size≠F by have:=L1.out;have:=hA.out;omega) (W:=B11_7);rw [xB] at ht;have HT:=qh (ht.trans H1.out);clear H1 ht;have H1:=HT;clear HT;clear HK hn;go_simp;clear xB cF fF;refine hK.out _ _ HN.out.s (λ_=>?_);clear hK K1;have HK:=HN;clear HN
   try (simp only [Act.put,qA,qB,qC,qD,qE,qF])
   refine wpAnyH_done (by kernel_rfl) ?_ _;exact HQ.out _ _ _ HK.out H0.out H1.out L0.out L1.out _ _ _ _ _ _ _ _ _ _ _ _ _
  ·obtain ⟨B11_6,xB⟩:∃B,V7_3.setCell ⟨F,1,none⟩ (.slice (some ⟨V4_0.heap.size,0,none⟩) 1 1)=B:=⟨_,rfl⟩
   have cF:V7_3.cell? ⟨F,1,none⟩=some (.slice (some ⟨I0,0,none⟩) 1 1):=(Aa HK.out.f 1 rfl);have fF:V7_3.frozen? ⟨F,1,none⟩=false:=(show FreeB V7_3 F from ⟨_,_,HK.out.f⟩).free 1;have hn:=HK.out.set hB.out 1 (.slice (some ⟨V4_0.heap.size,0,none⟩) 1 1);rw [xB] at hn;have HN:=qh hn;have ht:=Ak (i:=1) (.slice (some ⟨V4_0.heap.size,0,none⟩) 1 1) (show V4_0.heap.size≠F by have:=L0.out;have:=hA.out;omega) (W:=V7_3);rw [xB] at ht;have HT:=qh (ht.trans H0.out);clear H0 ht;have H0:=HT;clear HT;clear HK hn;go_simp;clear xB cF fF;refine hK.out _ _ HN.out.s (λ_=>?_);clear hK K1;have HK:=HN;clear HN
   try (simp only [Act.put,qA,qB,qC,qD,qE,qF])
   refine tr 8 _ (by kernel_rfl) rfl λK1 hK=>?_
   obtain ⟨A8_7,xA,gA,bA,sA⟩:=Ag B11_6 #[int i64 4,int i64 0,sv [113],int i64 1,.slice none 0 0,.slice none 0 0,int i64 4,int i64 0,sv [112],int i64 0,.slice none 0 0,.slice none 0 0] 48;have HN:=qh (HK.out.below bA);have HT:=qh (Ah bA H0.out);clear H0;have H0:=HT;clear HT;have H1:=qh gA;have L1:Hid (W.heap.size≤B11_6.heap.size):=qh HK.out.grow.size;clear HK gA bA sA;go_simp;clear xA;refine hK.out _ _ HN.out.s (λ_=>?_);clear hK K1;have HK:=HN;clear HN
   try (simp only [Act.put,qA,qB,qC,qD,qE,qF])
   refine tk 12 _ (.pointer (some ⟨F,2,none⟩)) rfl (λV hb=>by go_simp) HK.out.s ?_
   try (simp only [Act.put,qA,qB,qC,qD,qE,qF])
   refine tk 13 _ (.pointer (some ⟨F,3,none⟩)) rfl (λV hb=>by go_simp) HK.out.s ?_
   try (simp only [Act.put,qA,qB,qC,qD,qE,qF])
   refine tr 14 _ (by kernel_rfl) rfl λK1 hK=>?_
   obtain ⟨B14_10,xB⟩:∃B,A8_7.setCell ⟨F,3,none⟩ (.slice (some ⟨B11_6.heap.size,0,none⟩) 2 2)=B:=⟨_,rfl⟩;have cF:A8_7.cell? ⟨F,3,none⟩=some (.slice (some ⟨I1,0,none⟩) 1 1):=(Aa HK.out.f 3 rfl);have fF:A8_7.frozen? ⟨F,3,none⟩=false:=(show FreeB A8_7 F from ⟨_,_,HK.out.f⟩).free 3;have hn:=HK.out.set hB.out 3 (.slice (some ⟨B11_6.heap.size,0,none⟩) 2 2);rw [xB] at hn;have HN:=qh hn;have ht:=Ak (i:=3) (.slice (some ⟨B11_6.heap.size,0,none⟩) 2 2) (show V4_0.heap.size≠F by have:=L0.out;have:=hA.out;omega) (W:=A8_7);rw [xB] at ht;have HT:=qh (ht.trans H0.out);clear H0 ht;have H0:=HT;clear HT;have ht:=Ak (i:=3) (.slice (some ⟨B11_6.heap.size,0,none⟩) 2 2) (show B11_6.heap.size≠F by have:=L1.out;have:=hA.out;omega) (W:=A8_7);rw [xB] at ht;have HT:=qh (ht.trans H1.out);clear H1 ht;have H1:=HT;clear HT;clear HK hn;go_simp;clear xB cF fF;refine hK.out _ _ HN.out.s (λ_=>?_);clear hK K1;have HK:=HN;clear HN
   try (simp only [Act.put,qA,qB,qC,qD,qE,qF])
   refine wpAnyH_done (by kernel_rfl) ?_ _;exact HQ.out _ _ _ HK.out H0.out H1.out L0.out L1.out _ _ _ _ _ _ _ _ _ _ _ _ _
 ·go_simp
  refine (Kb _).mono ?_;rintro e V6_1 ⟨rfl,hb⟩;have HN:=qh (HK.out.below hb);clear HK hb;refine hK.out _ _ HN.out.s (λ_=>?_);clear hK K1;have HK:=HN;clear HN
  try (simp only [Act.put,qA,qB,qC,qD,qE,qF])
  refine wpAnyH_ready (rs:=[5,7]) (by kernel_rfl) (by simp) ?_;refine AllReadyH.cons (o:=_) rfl (λK1 hK=>?_) (AllReadyH.cons (o:=_) rfl (λK1 hK=>?_) AllReadyH.nil)
  ·obtain ⟨A5_2,xA,gA,bA,sA⟩:=Ag V6_1 #[int i64 4,int i64 0,sv [113],int i64 1,.slice none 0 0,.slice none 0 0] 48
   have HN:=qh (HK.out.below bA);have H0:=qh gA;have L0:Hid (W.heap.size≤V6_1.heap.size):=qh HK.out.grow.size;clear HK gA bA sA;go_simp;clear xA;refine hK.out _ _ HN.out.s (λ_=>?_);clear hK K1;have HK:=HN;clear HN
   try (simp only [Act.put,qA,qB,qC,qD,qE,qF])
   refine tr 7 _ (by kernel_rfl) rfl λK1 hK=>?_
   go_simp;refine (GH _).mono ?_;rintro e V7_3 ⟨rfl,hb⟩;have HN:=qh (HK.out.below hb);have HT:=qh (Ah hb H0.out);clear H0;have H0:=HT;clear HT;clear HK hb;refine hK.out _ _ HN.out.s (λ_=>?_);clear hK K1;have HK:=HN;clear HN
   try (simp only [Act.put,qA,qB,qC,qD,qE,qF])
   refine tk 9 _ (.pointer (some ⟨F,0,none⟩)) rfl (λV hb=>by go_simp) HK.out.s ?_
   try (simp only [Act.put,qA,qB,qC,qD,qE,qF])
   refine tk 10 _ (.pointer (some ⟨F,1,none⟩)) rfl (λV hb=>by go_simp) HK.out.s ?_
   try (simp only [Act.put,qA,qB,qC,qD,qE,qF])
   refine wpAnyH_ready (rs:=[8,11]) (by kernel_rfl) (by simp) ?_;refine AllReadyH.cons (o:=_) rfl (λK1 hK=>?_) (AllReadyH.cons (o:=_) rfl (λK1 hK=>?_) AllReadyH.nil)
   ·obtain ⟨A8_6,xA,gA,bA,sA⟩:=Ag V7_3 #[int i64 4,int i64 0,sv [113],int i64 1,.slice none 0 0,.slice none 0 0,int i64 4,int i64 0,sv [112],int i64 0,.slice none 0 0,.slice none 0 0] 48
    have HN:=qh (HK.out.below bA);have HT:=qh (Ah bA H0.out);clear H0;have H0:=HT;clear HT;have H1:=qh gA;have L1:Hid (W.heap.size≤V7_3.heap.size):=qh HK.out.grow.size;clear HK gA bA sA;go_simp;clear xA;refine hK.out _ _ HN.out.s (λ_=>?_);clear hK K1;have HK:=HN;clear HN
    try (simp only [Act.put,qA,qB,qC,qD,qE,qF])
    refine tr 11 _ (by kernel_rfl) rfl λK1 hK=>?_
    obtain ⟨B11_7,xB⟩:∃B,A8_6.setCell ⟨F,1,none⟩ (.slice (some ⟨V6_1.heap.size,0,none⟩) 1 1)=B:=⟨_,rfl⟩;have cF:A8_6.cell? ⟨F,1,none⟩=some (.slice (some ⟨I0,0,none⟩) 1 1):=(Aa HK.out.f 1 rfl);have fF:A8_6.frozen? ⟨F,1,none⟩=false:=(show FreeB A8_6 F from ⟨_,_,HK.out.f⟩).free 1;have hn:=HK.out.set hB.out 1 (.slice (some ⟨V6_1.heap.size,0,none⟩) 1 1);rw [xB] at hn;have HN:=qh hn;have ht:=Ak (i:=1) (.slice (some ⟨V6_1.heap.size,0,none⟩) 1 1) (show V6_1.heap.size≠F by have:=L0.out;have:=hA.out;omega) (W:=A8_6);rw [xB] at ht;have HT:=qh (ht.trans H0.out);clear H0 ht;have H0:=HT;clear HT;have ht:=Ak (i:=1) (.slice (some ⟨V6_1.heap.size,0,none⟩) 1 1) (show V7_3.heap.size≠F by have:=L1.out;have:=hA.out;omega) (W:=A8_6);rw [xB] at ht;have HT:=qh (ht.trans H1.out);clear H1 ht;have H1:=HT;clear HT;clear HK hn;go_simp;clear xB cF fF;refine hK.out _ _ HN.out.s (λ_=>?_);clear hK K1;have HK:=HN;clear HN
    try (simp only [Act.put,qA,qB,qC,qD,qE,qF])
    refine tk 12 _ (.pointer (some ⟨F,2,none⟩)) rfl (λV hb=>by go_simp) HK.out.s ?_
    try (simp only [Act.put,qA,qB,qC,qD,qE,qF])
    refine tk 13 _ (.pointer (some ⟨F,3,none⟩)) rfl (λV hb=>by go_simp) HK.out.s ?_
    try (simp only [Act.put,qA,qB,qC,qD,qE,qF])
    refine tr 14 _ (by kernel_rfl) rfl λK1 hK=>?_
    obtain ⟨B14_10,xB⟩:∃B,B11_7.setCell ⟨F,3,none⟩ (.slice (some ⟨V7_3.heap.size,0,none⟩) 2 2)=B:=⟨_,rfl⟩;have cF:B11_7.cell? ⟨F,3,none⟩=some (.slice (some ⟨I1,0,none⟩) 1 1):=(Aa HK.out.f 3 rfl);have fF:B11_7.frozen? ⟨F,3,none⟩=false:=(show FreeB B11_7 F from ⟨_,_,HK.out.f⟩).free 3;have hn:=HK.out.set hB.out 3 (.slice (some ⟨V7_3.heap.size,0,none⟩) 2 2);rw [xB] at hn;have HN:=qh hn;have ht:=Ak (i:=3) (.slice (some ⟨V7_3.heap.size,0,none⟩) 2 2) (show V6_1.heap.size≠F by have:=L0.out;have:=hA.out;omega) (W:=B11_7);rw [xB] at ht;have HT:=qh (ht.trans H0.out);clear H0 ht;have H0:=HT;clear HT;have ht:=Ak (i:=3) (.slice (some ⟨V7_3.heap.size,0,none⟩) 2 2) (show V7_3.heap.size≠F by have:=L1.out;have:=hA.out;omega) (W:=B11_7);rw [xB] at ht;have HT:=qh (ht.trans H1.out);clear H1 ht;have H1:=HT;clear HT;clear HK hn;go_simp;clear xB cF fF;refine hK.out _ _ HN.out.s (λ_=>?_);clear hK K1;have HK:=HN;clear HN
    try (simp only [Act.put,qA,qB,qC,qD,qE,qF])
    refine wpAnyH_done (by kernel_rfl) ?_ _;exact HQ.out _ _ _ HK.out H0.out H1.out L0.out L1.out _ _ _ _ _ _ _ _ _ _ _ _ _
   ·obtain ⟨B11_6,xB⟩:∃B,V7_3.setCell ⟨F,1,none⟩ (.slice (some ⟨V6_1.heap.size,0,none⟩) 1 1)=B:=⟨_,rfl⟩
    have cF:V7_3.cell? ⟨F,1,none⟩=some (.slice (some ⟨I0,0,none⟩) 1 1):=(Aa HK.out.f 1 rfl);have fF:V7_3.frozen? ⟨F,1,none⟩=false:=(show FreeB V7_3 F from ⟨_,_,HK.out.f⟩).free 1;have hn:=HK.out.set hB.out 1 (.slice (some ⟨V6_1.heap.size,0,none⟩) 1 1);rw [xB] at hn;have HN:=qh hn;have ht:=Ak (i:=1) (.slice (some ⟨V6_1.heap.size,0,none⟩) 1 1) (show V6_1.heap.size≠F by have:=L0.out;have:=hA.out;omega) (W:=V7_3);rw [xB] at ht;have HT:=qh (ht.trans H0.out);clear H0 ht;have H0:=HT;clear HT;clear HK hn;go_simp;clear xB cF fF;refine hK.out _ _ HN.out.s (λ_=>?_);clear hK K1;have HK:=HN;clear HN
    try (simp only [Act.put,qA,qB,qC,qD,qE,qF])
    refine tr 8 _ (by kernel_rfl) rfl λK1 hK=>?_
    obtain ⟨A8_7,xA,gA,bA,sA⟩:=Ag B11_6 #[int i64 4,int i64 0,sv [113],int i64 1,.slice none 0 0,.slice none 0 0,int i64 4,int i64 0,sv [112],int i64 0,.slice none 0 0,.slice none 0 0] 48;have HN:=qh (HK.out.below bA);have HT:=qh (Ah bA H0.out);clear H0;have H0:=HT;clear HT;have H1:=qh gA;have L1:Hid (W.heap.size≤B11_6.heap.size):=qh HK.out.grow.size;clear HK gA bA sA;go_simp;clear xA;refine hK.out _ _ HN.out.s (λ_=>?_);clear hK K1;have HK:=HN;clear HN
    try (simp only [Act.put,qA,qB,qC,qD,qE,qF])
    refine tk 12 _ (.pointer (some ⟨F,2,none⟩)) rfl (λV hb=>by go_simp) HK.out.s ?_
    try (simp only [Act.put,qA,qB,qC,qD,qE,qF])
    refine tk 13 _ (.pointer (some ⟨F,3,none⟩)) rfl (λV hb=>by go_simp) HK.out.s ?_
    try (simp only [Act.put,qA,qB,qC,qD,qE,qF])
    refine tr 14 _ (by kernel_rfl) rfl λK1 hK=>?_
    obtain ⟨B14_10,xB⟩:∃B,A8_7.setCell ⟨F,3,none⟩ (.slice (some ⟨B11_6.heap.size,0,none⟩) 2 2)=B:=⟨_,rfl⟩;have cF:A8_7.cell? ⟨F,3,none⟩=some (.slice (some ⟨I1,0,none⟩) 1 1):=(Aa HK.out.f 3 rfl);have fF:A8_7.frozen? ⟨F,3,none⟩=false:=(show FreeB A8_7 F from ⟨_,_,HK.out.f⟩).free 3;have hn:=HK.out.set hB.out 3 (.slice (some ⟨B11_6.heap.size,0,none⟩) 2 2);rw [xB] at hn;have HN:=qh hn;have ht:=Ak (i:=3) (.slice (some ⟨B11_6.heap.size,0,none⟩) 2 2) (show V6_1.heap.size≠F by have:=L0.out;have:=hA.out;omega) (W:=A8_7);rw [xB] at ht;have HT:=qh (ht.trans H0.out);clear H0 ht;have H0:=HT;clear HT;have ht:=Ak (i:=3) (.slice (some ⟨B11_6.heap.size,0,none⟩) 2 2) (show B11_6.heap.size≠F by have:=L1.out;have:=hA.out;omega) (W:=A8_7);rw [xB] at ht;have HT:=qh (ht.trans H1.out);clear H1 ht;have H1:=HT;clear HT;clear HK hn;go_simp;clear xB cF fF;refine hK.out _ _ HN.out.s (λ_=>?_);clear hK K1;have HK:=HN;clear HN
    try (simp only [Act.put,qA,qB,qC,qD,qE,qF])
    refine wpAnyH_done (by kernel_rfl) ?_ _;exact HQ.out _ _ _ HK.out H0.out H1.out L0.out L1.out _ _ _ _ _ _ _ _ _ _ _ _ _
  ·go_simp
   refine (GH _).mono ?_;rintro e V7_2 ⟨rfl,hb⟩;have HN:=qh (HK.out.below hb);clear HK hb;refine hK.out _ _ HN.out.s (λ_=>?_);clear hK K1;have HK:=HN;clear HN
   try (simp only [Act.put,qA,qB,qC,qD,qE,qF])
   refine wpAnyH_ready (rs:=[5,8]) (by kernel_rfl) (by simp) ?_;refine AllReadyH.cons (o:=_) rfl (λK1 hK=>?_) (AllReadyH.cons (o:=_) rfl (λK1 hK=>?_) AllReadyH.nil)
   ·obtain ⟨A5_3,xA,gA,bA,sA⟩:=Ag V7_2 #[int i64 4,int i64 0,sv [113],int i64 1,.slice none 0 0,.slice none 0 0] 48
    have HN:=qh (HK.out.below bA);have H0:=qh gA;have L0:Hid (W.heap.size≤V7_2.heap.size):=qh HK.out.grow.size;clear HK gA bA sA;go_simp;clear xA;refine hK.out _ _ HN.out.s (λ_=>?_);clear hK K1;have HK:=HN;clear HN
    try (simp only [Act.put,qA,qB,qC,qD,qE,qF])
    refine tk 9 _ (.pointer (some ⟨F,0,none⟩)) rfl (λV hb=>by go_simp) HK.out.s ?_
    try (simp only [Act.put,qA,qB,qC,qD,qE,qF])
    refine tk 10 _ (.pointer (some ⟨F,1,none⟩)) rfl (λV hb=>by go_simp) HK.out.s ?_
    try (simp only [Act.put,qA,qB,qC,qD,qE,qF])
    refine wpAnyH_ready (rs:=[8,11]) (by kernel_rfl) (by simp) ?_;refine AllReadyH.cons (o:=_) rfl (λK1 hK=>?_) (AllReadyH.cons (o:=_) rfl (λK1 hK=>?_) AllReadyH.nil)
    ·obtain ⟨A8_6,xA,gA,bA,sA⟩:=Ag A5_3 #[int i64 4,int i64 0,sv [113],int i64 1,.slice none 0 0,.slice none 0 0,int i64 4,int i64 0,sv [112],int i64 0,.slice none 0 0,.slice none 0 0] 48
     have HN:=qh (HK.out.below bA);have HT:=qh (Ah bA H0.out);clear H0;have H0:=HT;clear HT;have H1:=qh gA;have L1:Hid (W.heap.size≤A5_3.heap.size):=qh HK.out.grow.size;clear HK gA bA sA;go_simp;clear xA;refine hK.out _ _ HN.out.s (λ_=>?_);clear hK K1;have HK:=HN;clear HN
     try (simp only [Act.put,qA,qB,qC,qD,qE,qF])
     refine tr 11 _ (by kernel_rfl) rfl λK1 hK=>?_
     obtain ⟨B11_7,xB⟩:∃B,A8_6.setCell ⟨F,1,none⟩ (.slice (some ⟨V7_2.heap.size,0,none⟩) 1 1)=B:=⟨_,rfl⟩;have cF:A8_6.cell? ⟨F,1,none⟩=some (.slice (some ⟨I0,0,none⟩) 1 1):=(Aa HK.out.f 1 rfl);have fF:A8_6.frozen? ⟨F,1,none⟩=false:=(show FreeB A8_6 F from ⟨_,_,HK.out.f⟩).free 1;have hn:=HK.out.set hB.out 1 (.slice (some ⟨V7_2.heap.size,0,none⟩) 1 1);rw [xB] at hn;have HN:=qh hn;have ht:=Ak (i:=1) (.slice (some ⟨V7_2.heap.size,0,none⟩) 1 1) (show V7_2.heap.size≠F by have:=L0.out;have:=hA.out;omega) (W:=A8_6);rw [xB] at ht;have HT:=qh (ht.trans H0.out);clear H0 ht;have H0:=HT;clear HT;have ht:=Ak (i:=1) (.slice (some ⟨V7_2.heap.size,0,none⟩) 1 1) (show A5_3.heap.size≠F by have:=L1.out;have:=hA.out;omega) (W:=A8_6);rw [xB] at ht;have HT:=qh (ht.trans H1.out);clear H1 ht;have H1:=HT;clear HT;clear HK hn;go_simp;clear xB cF fF;refine hK.out _ _ HN.out.s (λ_=>?_);clear hK K1;have HK:=HN;clear HN
     try (simp only [Act.put,qA,qB,qC,qD,qE,qF])
     refine tk 12 _ (.pointer (some ⟨F,2,none⟩)) rfl (λV hb=>by go_simp) HK.out.s ?_
     try (simp only [Act.put,qA,qB,qC,qD,qE,qF])
     refine tk 13 _ (.pointer (some ⟨F,3,none⟩)) rfl (λV hb=>by go_simp) HK.out.s ?_
     try (simp only [Act.put,qA,qB,qC,qD,qE,qF])
     refine tr 14 _ (by kernel_rfl) rfl λK1 hK=>?_
     obtain ⟨B14_10,xB⟩:∃B,B11_7.setCell ⟨F,3,none⟩ (.slice (some ⟨A5_3.heap.size,0,none⟩) 2 2)=B:=⟨_,rfl⟩;have cF:B11_7.cell? ⟨F,3,none⟩=some (.slice (some ⟨I1,0,none⟩) 1 1):=(Aa HK.out.f 3 rfl);have fF:B11_7.frozen? ⟨F,3,none⟩=false:=(show FreeB B11_7 F from ⟨_,_,HK.out.f⟩).free 3;have hn:=HK.out.set hB.out 3 (.slice (some ⟨A5_3.heap.size,0,none⟩) 2 2);rw [xB] at hn;have HN:=qh hn;have ht:=Ak (i:=3) (.slice (some ⟨A5_3.heap.size,0,none⟩) 2 2) (show V7_2.heap.size≠F by have:=L0.out;have:=hA.out;omega) (W:=B11_7);rw [xB] at ht;have HT:=qh (ht.trans H0.out);clear H0 ht;have H0:=HT;clear HT;have ht:=Ak (i:=3) (.slice (some ⟨A5_3.heap.size,0,none⟩) 2 2) (show A5_3.heap.size≠F by have:=L1.out;have:=hA.out;omega) (W:=B11_7);rw [xB] at ht;have HT:=qh (ht.trans H1.out);clear H1 ht;have H1:=HT;clear HT;clear HK hn;go_simp;clear xB cF fF;refine hK.out _ _ HN.out.s (λ_=>?_);clear hK K1;have HK:=HN;clear HN
     try (simp only [Act.put,qA,qB,qC,qD,qE,qF])
     refine wpAnyH_done (by kernel_rfl) ?_ _;exact HQ.out _ _ _ HK.out H0.out H1.out L0.out L1.out _ _ _ _ _ _ _ _ _ _ _ _ _
    ·obtain ⟨B11_6,xB⟩:∃B,A5_3.setCell ⟨F,1,none⟩ (.slice (some ⟨V7_2.heap.size,0,none⟩) 1 1)=B:=⟨_,rfl⟩
     have cF:A5_3.cell? ⟨F,1,none⟩=some (.slice (some ⟨I0,0,none⟩) 1 1):=(Aa HK.out.f 1 rfl);have fF:A5_3.frozen? ⟨F,1,none⟩=false:=(show FreeB A5_3 F from ⟨_,_,HK.out.f⟩).free 1;have hn:=HK.out.set hB.out 1 (.slice (some ⟨V7_2.heap.size,0,none⟩) 1 1);rw [xB] at hn;have HN:=qh hn;have ht:=Ak (i:=1) (.slice (some ⟨V7_2.heap.size,0,none⟩) 1 1) (show V7_2.heap.size≠F by have:=L0.out;have:=hA.out;omega) (W:=A5_3);rw [xB] at ht;have HT:=qh (ht.trans H0.out);clear H0 ht;have H0:=HT;clear HT;clear HK hn;go_simp;clear xB cF fF;refine hK.out _ _ HN.out.s (λ_=>?_);clear hK K1;have HK:=HN;clear HN
     try (simp only [Act.put,qA,qB,qC,qD,qE,qF])
     refine tr 8 _ (by kernel_rfl) rfl λK1 hK=>?_
     obtain ⟨A8_7,xA,gA,bA,sA⟩:=Ag B11_6 #[int i64 4,int i64 0,sv [113],int i64 1,.slice none 0 0,.slice none 0 0,int i64 4,int i64 0,sv [112],int i64 0,.slice none 0 0,.slice none 0 0] 48;have HN:=qh (HK.out.below bA);have HT:=qh (Ah bA H0.out);clear H0;have H0:=HT;clear HT;have H1:=qh gA;have L1:Hid (W.heap.size≤B11_6.heap.size):=qh HK.out.grow.size;clear HK gA bA sA;go_simp;clear xA;refine hK.out _ _ HN.out.s (λ_=>?_);clear hK K1;have HK:=HN;clear HN
     try (simp only [Act.put,qA,qB,qC,qD,qE,qF])
     refine tk 12 _ (.pointer (some ⟨F,2,none⟩)) rfl (λV hb=>by go_simp) HK.out.s ?_
     try (simp only [Act.put,qA,qB,qC,qD,qE,qF])
     refine tk 13 _ (.pointer (some ⟨F,3,none⟩)) rfl (λV hb=>by go_simp) HK.out.s ?_
     try (simp only [Act.put,qA,qB,qC,qD,qE,qF])
     refine tr 14 _ (by kernel_rfl) rfl λK1 hK=>?_
     obtain ⟨B14_10,xB⟩:∃B,A8_7.setCell ⟨F,3,none⟩ (.slice (some ⟨B11_6.heap.size,0,none⟩) 2 2)=B:=⟨_,rfl⟩;have cF:A8_7.cell? ⟨F,3,none⟩=some (.slice (some ⟨I1,0,none⟩) 1 1):=(Aa HK.out.f 3 rfl);have fF:A8_7.frozen? ⟨F,3,none⟩=false:=(show FreeB A8_7 F from ⟨_,_,HK.out.f⟩).free 3;have hn:=HK.out.set hB.out 3 (.slice (some ⟨B11_6.heap.size,0,none⟩) 2 2);rw [xB] at hn;have HN:=qh hn;have ht:=Ak (i:=3) (.slice (some ⟨B11_6.heap.size,0,none⟩) 2 2) (show V7_2.heap.size≠F by have:=L0.out;have:=hA.out;omega) (W:=A8_7);rw [xB] at ht;have HT:=qh (ht.trans H0.out);clear H0 ht;have H0:=HT;clear HT;have ht:=Ak (i:=3) (.slice (some ⟨B11_6.heap.size,0,none⟩) 2 2) (show B11_6.heap.size≠F by have:=L1.out;have:=hA.out;omega) (W:=A8_7);rw [xB] at ht;have HT:=qh (ht.trans H1.out);clear H1 ht;have H1:=HT;clear HT;clear HK hn;go_simp;clear xB cF fF;refine hK.out _ _ HN.out.s (λ_=>?_);clear hK K1;have HK:=HN;clear HN
     try (simp only [Act.put,qA,qB,qC,qD,qE,qF])
     refine wpAnyH_done (by kernel_rfl) ?_ _;exact HQ.out _ _ _ HK.out H0.out H1.out L0.out L1.out _ _ _ _ _ _ _ _ _ _ _ _ _
   ·obtain ⟨A8_3,xA,gA,bA,sA⟩:=Ag V7_2 #[int i64 4,int i64 0,sv [113],int i64 1,.slice none 0 0,.slice none 0 0,int i64 4,int i64 0,sv [112],int i64 0,.slice none 0 0,.slice none 0 0] 48
    have HN:=qh (HK.out.below bA);have H1:=qh gA;have L1:Hid (W.heap.size≤V7_2.heap.size):=qh HK.out.grow.size;clear HK gA bA sA;go_simp;clear xA;refine hK.out _ _ HN.out.s (λ_=>?_);clear hK K1;have HK:=HN;clear HN
    try (simp only [Act.put,qA,qB,qC,qD,qE,qF])
    refine tr 5 _ (by kernel_rfl) rfl λK1 hK=>?_
    obtain ⟨A5_4,xA,gA,bA,sA⟩:=Ag A8_3 #[int i64 4,int i64 0,sv [113],int i64 1,.slice none 0 0,.slice none 0 0] 48;have HN:=qh (HK.out.below bA);have HT:=qh (Ah bA H1.out);clear H1;have H1:=HT;clear HT;have H0:=qh gA;have L0:Hid (W.heap.size≤A8_3.heap.size):=qh HK.out.grow.size;clear HK gA bA sA;go_simp;clear xA;refine hK.out _ _ HN.out.s (λ_=>?_);clear hK K1;have HK:=HN;clear HN
    try (simp only [Act.put,qA,qB,qC,qD,qE,qF])
    refine tk 9 _ (.pointer (some ⟨F,0,none⟩)) rfl (λV hb=>by go_simp) HK.out.s ?_
    try (simp only [Act.put,qA,qB,qC,qD,qE,qF])
    refine tk 10 _ (.pointer (some ⟨F,1,none⟩)) rfl (λV hb=>by go_simp) HK.out.s ?_
    try (simp only [Act.put,qA,qB,qC,qD,qE,qF])
    refine tr 11 _ (by kernel_rfl) rfl λK1 hK=>?_
    obtain ⟨B11_7,xB⟩:∃B,A5_4.setCell ⟨F,1,none⟩ (.slice (some ⟨A8_3.heap.size,0,none⟩) 1 1)=B:=⟨_,rfl⟩;have cF:A5_4.cell? ⟨F,1,none⟩=some (.slice (some ⟨I0,0,none⟩) 1 1):=(Aa HK.out.f 1 rfl);have fF:A5_4.frozen? ⟨F,1,none⟩=false:=(show FreeB A5_4 F from ⟨_,_,HK.out.f⟩).free 1;have hn:=HK.out.set hB.out 1 (.slice (some ⟨A8_3.heap.size,0,none⟩) 1 1);rw [xB] at hn;have HN:=qh hn;have ht:=Ak (i:=1) (.slice (some ⟨A8_3.heap.size,0,none⟩) 1 1) (show A8_3.heap.size≠F by have:=L0.out;have:=hA.out;omega) (W:=A5_4);rw [xB] at ht;have HT:=qh (ht.trans H0.out);clear H0 ht;have H0:=HT;clear HT;have ht:=Ak (i:=1) (.slice (some ⟨A8_3.heap.size,0,none⟩) 1 1) (show V7_2.heap.size≠F by have:=L1.out;have:=hA.out;omega) (W:=A5_4);rw [xB] at ht;have HT:=qh (ht.trans H1.out);clear H1 ht;have H1:=HT;clear HT;clear HK hn;go_simp;clear xB cF fF;refine hK.out _ _ HN.out.s (λ_=>?_);clear hK K1;have HK:=HN;clear HN
    try (simp only [Act.put,qA,qB,qC,qD,qE,qF])
    refine tk 12 _ (.pointer (some ⟨F,2,none⟩)) rfl (λV hb=>by go_simp) HK.out.s ?_
    try (simp only [Act.put,qA,qB,qC,qD,qE,qF])
    refine tk 13 _ (.pointer (some ⟨F,3,none⟩)) rfl (λV hb=>by go_simp) HK.out.s ?_
    try (simp only [Act.put,qA,qB,qC,qD,qE,qF])
    refine tr 14 _ (by kernel_rfl) rfl λK1 hK=>?_
    obtain ⟨B14_10,xB⟩:∃B,B11_7.setCell ⟨F,3,none⟩ (.slice (some ⟨V7_2.heap.size,0,none⟩) 2 2)=B:=⟨_,rfl⟩;have cF:B11_7.cell? ⟨F,3,none⟩=some (.slice (some ⟨I1,0,none⟩) 1 1):=(Aa HK.out.f 3 rfl);have fF:B11_7.frozen? ⟨F,3,none⟩=false:=(show FreeB B11_7 F from ⟨_,_,HK.out.f⟩).free 3;have hn:=HK.out.set hB.out 3 (.slice (some ⟨V7_2.heap.size,0,none⟩) 2 2);rw [xB] at hn;have HN:=qh hn;have ht:=Ak (i:=3) (.slice (some ⟨V7_2.heap.size,0,none⟩) 2 2) (show A8_3.heap.size≠F by have:=L0.out;have:=hA.out;omega) (W:=B11_7);rw [xB] at ht;have HT:=qh (ht.trans H0.out);clear H0 ht;have H0:=HT;clear HT;have ht:=Ak (i:=3) (.slice (some ⟨V7_2.heap.size,0,none⟩) 2 2) (show V7_2.heap.size≠F by have:=L1.out;have:=hA.out;omega) (W:=B11_7);rw [xB] at ht;have HT:=qh (ht.trans H1.out);clear H1 ht;have H1:=HT;clear HT;clear HK hn;go_simp;clear xB cF fF;refine hK.out _ _ HN.out.s (λ_=>?_);clear hK K1;have HK:=HN;clear HN
    try (simp only [Act.put,qA,qB,qC,qD,qE,qF])
    refine wpAnyH_done (by kernel_rfl) ?_ _;exact HQ.out _ _ _ HK.out H0.out H1.out L0.out L1.out _ _ _ _ _ _ _ _ _ _ _ _ _
end
section
open Go Go.RowKit Go.Shelf
theorem UM{R T M U I0 I1 F D X:Nat}{W:World}(h:Sm18 R T M U I0 I1 F D W)(hX:W.heap[X]?=some (.cells (Dg R T M U I0 I1 F D).cells 30 (0,0))):Bx (Dg R T M U I0 I1 F D) Dh X W:=⟨hX,(K6 h).1,(K6 h).2⟩
theorem Tj{R T M U I0 I1 F D X:Nat}{W:World}(h:Sm18 R T M U I0 I1 F D W)(hX:W.heap[X]?=some (.cells (Ef 0 0 R T F D (phP I0 M) (phQ I1 U) 1).cells 30 (0,0))):Bx (Ef 0 0 R T F D (phP I0 M) (phQ I1 U) 1) Dh X W :=
 ⟨hX,Mz h.hR h.hT h.hF h.hD rfl rfl (JU h.hI0 h.hM).1 (JV h.hI1 h.hU).1,(K6 h).2⟩
theorem Rg{R T M U I0 I1 F D X:Nat}{W V:World}(h:Sm18 R T M U I0 I1 F D W)(hA:∀b∈[R,T,M,U,I0,I1,F],b≠D)(hD:V.heap[D]?=some (.cells #[sv [97],int i64 0,sv [113],int i64 1,int i64 2,.bool false] 53 (0,0)))(hk:∀b,b≠D→V.heap[b]?=W.heap[b]?)(hX:V.heap[X]?=some (.cells (Dg R T M U I0 I1 F D).cells 30 (0,0))):Bx (Ef 2 1 R T F D (phP I0 M) (phQ I1 U) 2) Dh X V:=by
 have k:∀b,b∈[R,T,M,U,I0,I1,F]→V.heap[b]?=W.heap[b]?:=λb hb=>hk b (hA b hb)
 have hI0:=(k I0 (by simp)).trans h.hI0;have hM:=(k M (by simp)).trans h.hM;have hI1:=(k I1 (by simp)).trans h.hI1;have hU:=(k U (by simp)).trans h.hU;obtain ⟨a1,a2⟩:=JU hI0 hM;obtain ⟨b1,b2⟩:=JV hI1 hU;refine ⟨hX,Mz ((k R (by simp)).trans h.hR) ((k T (by simp)).trans h.hT) ((k F (by simp)).trans h.hF) hD rfl rfl a1 b1,?_⟩;obtain ⟨x1,x2,_⟩:=a2;obtain ⟨y1,y2,_⟩:=b2;exact ⟨x1,x2,y1,y2,Aa hD 1 rfl,Aa hD 3 rfl,trivial⟩
theorem UH{R T F D X X0 X1:Nat}{V:World}(hR:V.heap[R]?=some (.cells #[sv [97],int i64 20,int i64 10,int i64 7] 60 (0,0)))(hT:V.heap[T]?=some (.cells #[int i64 0,int i64 1000,int i64 0] 80 (0,0)))(hF:V.heap[F]?=some (.cells #[sv [112],.slice (some ⟨X0,0,none⟩) 1 1,sv [113],.slice (some ⟨X1,0,none⟩) 2 2] 51 (0,0)))(hD:V.heap[D]?=some (.cells #[sv [97],int i64 0,sv [113],int i64 1,int i64 1,.bool false] 53 (0,0)))
  (h0:V.heap[X0]?=some (.cells #[int i64 4,int i64 0,sv [113],int i64 1,.slice none 0 0,.slice none 0 0] 48 (0,0))) (h1:V.heap[X1]?=some (.cells #[int i64 4,int i64 0,sv [113],int i64 1,.slice none 0 0,.slice none 0 0,int i64 4,int i64 0,sv [112],int i64 0,.slice none 0 0,.slice none 0 0] 48 (0,0))) (hX:V.heap[X]?=some (.cells (Ef 2 1 R T F D (rgP X0) (rgQ X1) 1).cells 30 (0,0))):Bx (Ef 2 1 R T F D (rgP X0) (rgQ X1) 1) Js X V:=by
 have m1:(1:Nat)≤maxLen:=by decide
 have m2:(2:Nat)≤maxLen:=by decide
 refine ⟨hX,Mz hR hT hF hD rfl rfl ⟨Or.inr rfl,m1,?_⟩ ⟨Or.inr rfl,m2,?_⟩,?_⟩
 ·exact ⟨⟨Aa h0 0 rfl,Aa h0 1 rfl,Aa h0 2 rfl,Aa h0 4 rfl,Aa h0 5 rfl⟩,⟨Or.inl rfl,Nat.zero_le _,trivial⟩,⟨Or.inl rfl,Nat.zero_le _,trivial⟩,trivial⟩
 ·exact ⟨⟨Aa h1 0 rfl,Aa h1 1 rfl,Aa h1 2 rfl,Aa h1 4 rfl,Aa h1 5 rfl⟩,⟨Or.inl rfl,Nat.zero_le _,trivial⟩,⟨Or.inl rfl,Nat.zero_le _,trivial⟩,
   ⟨Aa h1 6 rfl,Aa h1 7 rfl,Aa h1 8 rfl,Aa h1 10 rfl,Aa h1 11 rfl⟩,⟨Or.inl rfl,Nat.zero_le _,trivial⟩,⟨Or.inl rfl,Nat.zero_le _,trivial⟩,trivial⟩
 ·exact ⟨Aa h0 3 rfl,Aa h1 3 rfl,Aa h1 9 rfl,Aa hD 1 rfl,Aa hD 3 rfl,trivial⟩
theorem Sm18.keep{R T M U I0 I1 F D:Nat}{W V:World}(h:Sm18 R T M U I0 I1 F D W)(k:∀b∈[R,T,M,U,I0,I1,F,D],V.heap[b]?=W.heap[b]?):Sm18 R T M U I0 I1 F D V :=
 ⟨(k R (by simp)).trans h.hR,(k T (by simp)).trans h.hT,(k M (by simp)).trans h.hM,(k U (by simp)).trans h.hU,(k I0 (by simp)).trans h.hI0,(k I1 (by simp)).trans h.hI1,(k F (by simp)).trans h.hF,(k D (by simp)).trans h.hD⟩
theorem Rq{R T M U I0 I1 F D:Nat}(h:[R,T,M,U,I0,I1,F,D].Nodup):∀b∈[R,T,M,U,I0,I1,F],b≠D:=λb hb e=>(List.nodup_append.1 (show ([R,T,M,U,I0,I1,F]++[D]).Nodup from h)).2.2 b hb D (by simp) e
theorem Rr{R T M U I0 I1 F D:Nat}(h:[R,T,M,U,I0,I1,F,D].Nodup):R≠F∧T≠F∧D≠F:=by
 have g:=List.nodup_append.1 (show ([R,T,M,U,I0,I1]++[F,D]).Nodup from h);refine ⟨λe=>g.2.2 R (by simp) F (by simp) e,λe=>g.2.2 T (by simp) F (by simp) e,λe=>?_⟩;have h2:=(List.nodup_cons.1 g.2.1).1;exact h2 (by simp [e])
theorem TQ(v:Value)(x1 x2 x3:Ls)(n1 n2 n3:List Int)(Xa Xb Xc:Nat)(w W:World)(HE:Hid (∀V,Below w.heap.size w V→Env V))(q:Below w.heap.size w W)(B1:Bx x1 n1 Xa W)(B2:Bx x2 n2 Xb W)(B3:Bx x3 n3 Xc W)(s1:AE x1 n1=0)(s2:AE x2 n2=180)(s3:AE x3 n3=180)(hA:IntRow W v [0,1]):
  (Ab 10 AK).wp Tryz.prog (bodyPost Tryz.prog Tryz.f5 (λe w'=>e=.returned (.bool true)∧Below w.heap.size w w')) { tmps:=#[e0,.pointer (some ⟨Xa,0,none⟩),int i64 2,int i64 0,e4,int i64 1,e6,.bool false,int i64 0,.pointer (some ⟨Xb,0,none⟩),v,.bool true,int i64 0,.pointer (some ⟨Xc,0,none⟩),eb,ec,ed,ee,ef,eg,eh,ei,ej,ek,el,em,en,eo,ep,eq,er,es,et,eu,ev,ew,ex,ey,ez,eA,eB,eC,eD,eE,eF,eG,eH,eI,eJ,eK,eL,eM,eN,eO,eP,eQ,eR,eS,eT,eU,eV,eW,eX,eY,eZ,aa,ab,ac,ae,af,ag,ah,ai,aj,ak,al,am,an,ao,ap,aq,ar,au,av,aw,ax,ay,az,aA,aB,aC,aD,aE,aF,aG,aH,aI,aJ,aK,aL,aM,aN,aO,aP,aQ,aR,aS,aT,aU,aV,aW,aX,aY,aZ,ba,bb,bc,be,bf,bg,bh],defers:=[] } W:=by
 rw [QC];refine Ae (λK hK=>?_);have HK:=qh hK;clear hK;refine TR W _ ?_;intro Rd Td Md Ud Id Jd Fd Dd Xd y Vd ad bd cd dd ld qd;refine HK.out _ _ ?_;clear HK K;rw [QD];refine Ae (λK hK=>?_);have HK:=qh hK;clear hK;refine TS Rd Td Fd Dd Xd (phP Id Md) (phQ Jd Ud) 2 1 1 Vd dd ad.hD _ ?_;intro x56 x57 x58 x59 V11 ea k11 n11;refine HK.out _ _ ?_;clear HK K;have g11:Below W.heap.size W V11:=qd.trans (n11 _ (bd Dd (by simp)).1);have hC:Xd≠Dd:=Nat.ne_of_gt (bd Dd (by simp)).2;have B4:=Rg ad (Rq cd) ea k11 ((k11 _ hC).trans dd);have B1:=B1.next g11
 have B2:=B2.next g11
 have B3:=B3.next g11
 have q11:=Ad q g11;have hA:=hA.below g11;rw [QE];refine Ae (λK hK=>?_);have HK:=qh hK;clear hK;refine TT v V11 hA _ ?_;intro x60 x61 x62 x63 x64 x65 x66 x67 x68 x69 x70 x71 x72 x73 x74 x75 x76 x77 x78 x79 x80 x81 x82 x83 x84 x85 x86 x87 x88 x89 x90 V12 hB;refine HK.out _ _ ?_;clear HK K;exact TU x1 x2 x3 _ n1 n2 n3 _ Xa Xb Xc Xd w V12 HE.out (Ad q11 hB) (B1.next hB) (B2.next hB) (B3.next hB) (B4.next hB) s1 s2 s3 (JO _ _ _ _ _ _ _ _)
theorem TP(v:Value)(x1 x2:Ls)(n1 n2:List Int)(Xa Xb:Nat)(w W:World)(HE:Hid (∀V,Below w.heap.size w V→Env V))(q:Below w.heap.size w W)(B1:Bx x1 n1 Xa W)(B2:Bx x2 n2 Xb W)(s1:AE x1 n1=0)(s2:AE x2 n2=180)(hA:IntRow W v [0,1]):
  (Ab 8 AK).wp Tryz.prog (bodyPost Tryz.prog Tryz.f5 (λe w'=>e=.returned (.bool true)∧Below w.heap.size w w')) { tmps:=#[e0,.pointer (some ⟨Xa,0,none⟩),int i64 2,int i64 0,e4,int i64 1,e6,.bool false,int i64 0,.pointer (some ⟨Xb,0,none⟩),v,.bool true,int i64 0,ea,eb,ec,ed,ee,ef,eg,eh,ei,ej,ek,el,em,en,eo,ep,eq,er,es,et,eu,ev,ew,ex,ey,ez,eA,eB,eC,eD,eE,eF,eG,eH,eI,eJ,eK,eL,eM,eN,eO,eP,eQ,eR,eS,eT,eU,eV,eW,eX,eY,eZ,aa,ab,ae,af,ag,ah,ai,aj,ak,al,am,an,ao,ap,aq,ar,au,av,aw,ax,ay,az,aA,aB,aC,aD,aE,aF,aG,aH,aI,aJ,aK,aL,aM,aN,aO,aP,aQ,aR,aS,aT,aU,aV,aW,aX,aY,aZ,ba,bb,bd,be,bf,bg,bh,bi],defers:=[] } W:=by
 rw [Sa];refine Ae (λK hK=>?_);have HK:=qh hK;clear hK;refine UU W _ ?_;intro Rc Tc Mc Uc Ic Jc Fc Dc Xc y Vc ac bc cc dc lc qc;refine HK.out _ _ ?_;clear HK K;rw [Sb];refine Ae (λK hK=>?_);have HK:=qh hK;clear hK;refine UV Rc Tc Fc Dc Xc (phP Ic Mc) (phQ Jc Uc) 2 1 1 Vc dc _ ?_;intro x53 x54 V9 e9 k9 n9;refine HK.out _ _ ?_;clear HK K;have g9:Below W.heap.size W V9:=qc.trans (n9 _ lc);have a9:=ac.keep (λb hb=>k9 b (Nat.ne_of_lt (bc b hb).2));exact TQ v x1 x2 _ n1 n2 _ Xa Xb Xc w V9 HE (Ad q g9) (B1.next g9) (B2.next g9) (Tj a9 e9) s1 s2 (KT _ _ _ _ _ _ _ _) (hA.below g9)
theorem TO(x1:Ls)(n1:List Int)(Xa:Nat)(w W:World)(HE:Hid (∀V,Below w.heap.size w V→Env V))(q:Below w.heap.size w W)(B1:Bx x1 n1 Xa W)(s1:AE x1 n1=0):
  (Ab 5 AK).wp Tryz.prog (bodyPost Tryz.prog Tryz.f5 (λe w'=>e=.returned (.bool true)∧Below w.heap.size w w')) { tmps:=#[e0,.pointer (some ⟨Xa,0,none⟩),int i64 2,int i64 0,e4,int i64 1,e6,.bool false,int i64 0,e9,ea,eb,ec,ed,ee,ef,eg,eh,ei,ej,ek,el,em,en,eo,ep,eq,er,es,et,eu,ev,ew,ex,ey,ez,eA,eB,eC,eD,eE,eF,eG,eH,eI,eJ,eK,eL,eM,eN,eO,eP,eQ,eR,eS,eT,eU,eV,eW,eX,eY,eZ,aa,ac,ae,af,ag,ah,ai,aj,ak,al,am,an,ao,ap,aq,ar,au,av,aw,ax,ay,az,aA,aB,aC,aD,aE,aF,aG,aH,aI,aJ,aK,aL,aM,aN,aO,aP,aQ,aR,aS,aT,aU,aV,aW,aX,aY,aZ,ba,bc,bd,be,bf,bg,bh,bi,bj,bk,bl],defers:=[] } W:=by
 rw [S7];refine Ae (λK hK=>?_);have HK:=qh hK;clear hK;refine UR W _ ?_;intro Rb Tb Mb Ub Ib Jb Fb Db Xb y Vb ab bb cb db lb qb;refine HK.out _ _ ?_;clear HK K;rw [S8];refine Ae (λK hK=>?_);have HK:=qh hK;clear hK;have hB:Xb≠Fb:=Nat.ne_of_gt (bb Fb (by simp)).2;refine wp_mono (US Rb Tb Mb Ub Ib Jb Fb Db Xb Vb ab.hF db hB K ?_) By;intro X0 X1 V6 k6 o0 o1 _ _ x33 x34 x35 x36 x37 x38 x39 x40 x41 x42 x43 x44 x45;refine HK.out _ _ ?_;clear HK K;have g6:Below W.heap.size W V6:=qb.grown k6.grow qb.size (λz hz=>by cases hz;exact (bb Fb (by simp)).1);have kb:∀(b:Nat) (o:Obj),Vb.heap[b]?=some o→b≠Fb→V6.heap[b]?=some o:=λb o hb hC=>(k6.grow.block b (qs.1 hb).1 (λe=>hC (by cases e;rfl))).trans hb
 obtain ⟨r1,r2,r3⟩:=Rr cb;have B2:=UH (kb _ _ ab.hR r1) (kb _ _ ab.hT r2) k6.f (kb _ _ ab.hD r3) o0 o1 k6.x;have B1:=B1.next g6
 have q6:=Ad q g6;rw [S9];refine Ae (λK hK=>?_);have HK:=qh hK;clear hK;refine UT Rb Tb Fb Db X0 X1 Xb V6 B2 (HE.out _ q6) _ ?_;intro v x46 x47 x48 x49 x50 x51 V7 hA h7;refine HK.out _ _ ?_;clear HK K;exact TP v x1 _ n1 _ Xa Xb w V7 HE (Ad q6 h7) (B1.next h7) (B2.next h7) s1 (M5 _ _ _ _ _ _) hA
theorem TN(w:World)(hE:∀V,Below w.heap.size w V→Env V):Calls Tryz.prog 5 #[] w (λe w'=>e=.returned (.bool true)∧Below w.heap.size w w'):=by
 have HE:=qh hE;clear hE;go_enter Tryz.func5,Tryz.ntmps5;change Code.wp Tryz.prog AK _ _ _;rw [S0];refine Ae (λK hK=>?_);have HK:=qh hK;clear hK
 conv=>arg 2;whnf
 go_wp2_with fail;refine HK.out _ _ ?_;clear HK K;rw [S3];refine Ae (λK hK=>?_);have HK:=qh hK;clear hK;refine UN w _ ?_;intro Ra Ta Ma Ua Ia Ja Fa Da Xa y Va aa ba ca da la qa;refine HK.out _ _ ?_;clear HK K;have B1:=UM aa da;rw [S4];refine Ae (λK hK=>?_);have HK:=qh hK;clear hK;refine UO Ra Ta Ma Ua Ia Ja Fa Da Xa Va B1 (HE.out _ qa) _ ?_;intro x16 x17 x18 x19 x20 V2 h2;refine HK.out _ _ ?_;clear HK K;have B1:=B1.next h2
 have q2:=Ad qa h2;rw [S5];refine Ae (λK hK=>?_);have HK:=qh hK;clear hK;refine UP Ra Ta Ma Ua Ia Ja Fa Da Xa V2 B1 (HE.out _ q2) _ ?_;intro x21 x22 x23 x24 x25 V3 h3;refine HK.out _ _ ?_;clear HK K;have B1:=B1.next h3
 have q3:=Ad q2 h3;rw [S6];refine Ae (λK hK=>?_);have HK:=qh hK;clear hK;refine UQ Ra Ta Ma Ua Ia Ja Fa Da Xa V3 B1 (HE.out _ q3) _ ?_;intro x26 x27 x28 x29 x30 x31 V4 h4;refine HK.out _ _ ?_;clear HK K;have B1:=B1.next h4
 have q4:=Ad q3 h4;exact TO _ _ Xa w V4 HE q4 B1 (Mj _ _ _ _ _ _ _ _)
end
section
open Go Go.RowKit Go.Deep
theorem O3{s:Ls}{ns:List Int}(h:AE s ns=0):BV s.strip ns=0∧Bq (s.nexts (AA s.strip))=[]∧s.phrases.all (λp=>p.its.strip.exB)=true:=by
 obtain ⟨h1,h2⟩:=Ej h;rw [Gq] at h2;simp only [Bool.and_eq_true,decide_eq_true_eq] at h2;exact ⟨h1,h2.1,h2.2.2.2.1⟩
theorem Rk(s:Ls)(ns:List Int)(k:Int)(w:World)(hA:s.At w)(hN:NsAt w s.refs ns)(hP:∀V,Below w.heap.size w V→Calls Tryz.prog 31 #[s.val] V (F5 s.strip ns V)):Calls Tryz.prog 12 #[s.val,int i64 k] w (QL s ns k w):=by
 obtain ⟨W0,hU,gB,b0,s0⟩:=Ag w s.cells 30;have C:=Lq s ns W0 (hA.below b0) (hN.below b0) (λV hV=>hP V (Ad b0 hV));have hv:s.val=.agg s.cells:=rfl;rw [hv];have HX:=qh gB;have HC:=qh C;have HA:=qh hA;have HN:=qh hN;have HB:=qh b0;unfold Ls.cells at hU ⊢;clear hA hN hP gB b0 C hv s0;obtain ⟨c,hc⟩:∃c,AE s ns=c:=⟨_,rfl⟩;have hJ:=qh hc;unfold Eo at HC;rw [hc] at HC;clear hc;have st0:True:=trivial;by_cases hz:c=0
 case neg =>
  have HL:Hid (Eh s ns k=(0,c)):=qh (by unfold Eh;rw [hJ.out,if_neg hz]);have hq:(c != 0)=true:=by simpa using hz
  clear hz;go_enter Tryz.func12,Tryz.ntmps12
  go_wp2_with (first|(have q:=st0;clear q st0;refine An (by kernel_rfl) 30 _ rfl w.heap.size rfl 30 s.cells (0,0) _ HX.out Tryz.underlying30 rfl (by kernel_rfl) ?_;simp only [Act.put,qD,qE,qF])|(go_at_call 8;refine HC.out.mono ?_;rintro e V ⟨rfl,hv⟩;have HV:=qh (Ad HB.out hv);clear hv));refine bodyPost_ret (v:=.tuple #[int i64 0,int i64 c]) ?_ rfl ?_
  ·simp [results,Tryz.results12,go_sem]
  ·exact ⟨by rw [HL.out],HV.out⟩
 subst hz;obtain ⟨n,hF⟩:∃n,s.phrases.length=n:=⟨_,rfl⟩;obtain ⟨hH,hQ,hR⟩:=O3 hJ.out;have hW:n≤64:=by rw [← hF];exact (C9 hH).2.1
 have hX:Hid (PhL s (AA s.strip) (DB (s.nexts (AA s.strip))) (BF s.itsL (AA s.strip)) n):=qh (by rw [← hF];exact PU hH hQ hR);have hS:=qh (λV (hV:Below w.heap.size w V)=>EL s (AA s.strip) _ (BF s.itsL (AA s.strip)) n V (HA.out.below hV) (EC hH (HN.out.below hV)) (by omega) hX.out);have hK:Hid (Eh s ns k=if inB k 0 ((n:Int)-1)=true then (if BF s.itsL (AA s.strip) k≤4096 then (BF s.itsL (AA s.strip) k,0) else (0,2)) else (0,1)):=qh (by unfold Eh;rw [if_pos hJ.out,hF]);have y10:W0.cell? ⟨w.heap.size,10,none⟩=some (.slice s.fa n s.fc):=by rw [← hF];exact Aa HX.out 10 rfl
 have HY:=qh y10;clear hH hQ hR hF y10
 cases hq:inB k 0 ((n:Int)-1) with
 | false =>
  have HL:Hid (Eh s ns k=(0,1)):=qh (by rw [hK.out,hq];rfl);go_enter Tryz.func12,Tryz.ntmps12
  go_wp2_with (first|(have q:=st0;clear q st0;refine An (by kernel_rfl) 30 _ rfl w.heap.size rfl 30 s.cells (0,0) _ HX.out Tryz.underlying30 rfl (by kernel_rfl) ?_;simp only [Act.put,qD,qE,qF])|(go_at_call 8;refine HC.out.mono ?_;rintro e V ⟨rfl,hv⟩;have HV:=qh (Ad HB.out hv);have z10:=Ac hv HY.out;clear hv)|(go_at_call 30;refine (AG (by assumption) _).mono ?_;rintro e w5 ⟨rfl,rfl⟩));refine bodyPost_ret (v:=.tuple #[int i64 0,int i64 1]) ?_ rfl ?_
  ·simp [results,Tryz.results12,go_sem]
  ·exact ⟨by rw [HL.out],HV.out⟩
 | true =>
  have hY:=AR.1 hq;obtain ⟨j,rfl⟩:∃j:Nat,k=j:=⟨k.toNat,by omega⟩;have hI:j<n:=by omega
  have hZ:(j:Int)<(n:Int):=by omega
  have ha:(0:Int)≤(j:Int):=by omega
  by_cases hT:BF s.itsL (AA s.strip) j≤4096
  ·have HL:Hid (Eh s ns j=(BF s.itsL (AA s.strip) j,0)):=qh (by rw [hK.out,if_pos hq,if_pos hT])
   have hL:¬(4096:Int)<BF s.itsL (AA s.strip) j:=by omega
   go_enter Tryz.func12,Tryz.ntmps12
   go_wp2_with (first|(have q:=st0;clear q st0;refine An (by kernel_rfl) 30 _ rfl w.heap.size rfl 30 s.cells (0,0) _ HX.out Tryz.underlying30 rfl (by kernel_rfl) ?_;simp only [Act.put,qD,qE,qF])|(go_at_call 8;refine HC.out.mono ?_;rintro e V ⟨rfl,hv⟩;have HV:=qh (Ad HB.out hv);have hM:=qh (Ah hv HX.out);have z10:=Ac hv HY.out;have st1:True:=trivial;clear hv)|(go_at_call 30;refine (AG (by assumption) _).mono ?_;rintro e w5 ⟨rfl,rfl⟩)|(have q:=st1;clear q st1;refine An (by kernel_rfl) 30 _ rfl w.heap.size rfl 30 s.cells (0,0) _ hM.out Tryz.underlying30 rfl (by kernel_rfl) ?_;simp only [Act.put,qD,qE,qF])|(go_at_call 29;refine (hS.out _ HV.out).mono ?_;rintro e V5 ⟨G,ls,rfl,hB,hC,hD,hG,hE⟩;have hO:=qh hG;have yg:=hB.cell (j:=j) (by rw [hC];exact hI);rw [hD j hI] at yg;clear hG hB hC hD hE));refine bodyPost_ret (v:=.tuple #[int i64 (BF s.itsL (AA s.strip) j),int i64 0]) ?_ rfl ?_
   ·simp [results,Tryz.results12,go_sem]
   ·exact ⟨by rw [HL.out],Ad HV.out hO.out⟩
  ·have HL:Hid (Eh s ns j=(0,2)):=qh (by rw [hK.out,if_pos hq,if_neg hT])
   have hL:(4096:Int)<BF s.itsL (AA s.strip) j:=by omega
   go_enter Tryz.func12,Tryz.ntmps12
   go_wp2_with (first|(have q:=st0;clear q st0;refine An (by kernel_rfl) 30 _ rfl w.heap.size rfl 30 s.cells (0,0) _ HX.out Tryz.underlying30 rfl (by kernel_rfl) ?_;simp only [Act.put,qD,qE,qF])|(go_at_call 8;refine HC.out.mono ?_;rintro e V ⟨rfl,hv⟩;have HV:=qh (Ad HB.out hv);have hM:=qh (Ah hv HX.out);have z10:=Ac hv HY.out;have st1:True:=trivial;clear hv)|(go_at_call 30;refine (AG (by assumption) _).mono ?_;rintro e w5 ⟨rfl,rfl⟩)|(have q:=st1;clear q st1;refine An (by kernel_rfl) 30 _ rfl w.heap.size rfl 30 s.cells (0,0) _ hM.out Tryz.underlying30 rfl (by kernel_rfl) ?_;simp only [Act.put,qD,qE,qF])|(go_at_call 29;refine (hS.out _ HV.out).mono ?_;rintro e V5 ⟨G,ls,rfl,hB,hC,hD,hG,hE⟩;have hO:=qh hG;have yg:=hB.cell (j:=j) (by rw [hC];exact hI);rw [hD j hI] at yg;clear hG hB hC hD hE));refine bodyPost_ret (v:=.tuple #[int i64 0,int i64 2]) ?_ rfl ?_
   ·simp [results,Tryz.results12,go_sem]
   ·exact ⟨by rw [HL.out],Ad HV.out hO.out⟩
end
end Go.Proofs.YtpnbpepkoekkoaaGreat
