/- Contracts and plain laws on the way to the statement: part 34. -/
import Derived.Test.YtpnbpepkoekkoaaGreatZ33
import Derived.Test.YtpnbpepkoekkoaaGreatZ30
import Derived.OrdersHeld
import Derived.Deep.RegionHeld
import Derived.BigRegion
import Derived.BigCall
import Derived.BigGuard
import Derived.Test.YtpnbpepkoekkoaaGreatZ3
set_option autoImplicit true
set_option relaxedAutoImplicit true
set_option linter.unusedVariables false
set_option linter.unusedSimpArgs false
set_option maxRecDepth 100000
set_option maxHeartbeats 16000000
namespace Go.Proofs.YtpnbpepkoekkoaaGreat
open Go.Value (int)
open Go.IntKind (i64)
section
open Go Go.RowKit Go.Deep
theorem UD(k n' u:Int)(un:Nm)(x y:Value)(hx:x.oneCell'=true)(hy:y.oneCell'=true):(#[int i64 k,int i64 n',sv un,int i64 u,x,y]:Array Value).all (·.oneCell')=true:=by
 simp only [Array.all_eq_true',Array.mem_def,List.mem_cons,List.mem_nil_iff,or_false];rintro z (rfl|rfl|rfl|rfl|rfl|rfl)
 ·rfl
 ·rfl
 ·rfl
 ·rfl
 ·exact hx
 ·exact hy
theorem OG{wr:World}(w7:World)(X Y:Nat)(ao:Option Addr)(l co:Nat)(cs:Array Value)(hY:Y=w7.heap.size)(hX:X<w7.heap.size)(hb:Below X wr w7)(h1:cs.all (·.oneCell')=true) :
  ∃w9,(w7.setCell ⟨X,4,none⟩ (.slice ao l co)).alloc (.cells cs 48)=w9∧Below X wr w9∧((∀ad,(some ⟨Y,0,none⟩:Option Addr)=some ad→∀j u,cs.toList[j]?=some u→w9.cell? (ad.add j)=some u)∧∀u∈cs.toList,u.oneCell'=true)∧ButOne X w7 w9∧w9.heap.size=Y+1:=by
 have hs:(w7.setCell ⟨X,4,none⟩ (.slice ao l co)).heap.size=w7.heap.size:=by simp [World.setCell]
 refine ⟨_,rfl,(hb.setCell (p:=⟨X,4,none⟩) (qn _) _).alloc (by omega) _,⟨λad ha j u hj=>?_,λu hu=>?_⟩,(ButOne.setCell (p:=⟨X,4,none⟩) _).trans (ButOne.of_below ((Below.refl _ _).alloc (qn _) _)),by simp [hs];omega⟩
 ·cases ha
  rw [AM,hY,← hs];exact Aa (heap_alloc_new _ _) _ (by rw [← Array.getElem?_toList];simpa using hj)
 ·exact Array.all_eq_true'.1 h1 u (Array.mem_toList_iff.1 hu)
theorem MvNew.lower{lo lo':Nat}{ms:List Mov}{m1:List Int}{ma:Option Addr}{W:World}(h:MvNew lo' ms m1 ma W)(hl:lo≤lo'):MvNew lo ms m1 ma W :=
 ⟨h.1.imp id λ⟨a,b,c⟩=>⟨a,Nat.le_trans hl b,c⟩,h.2⟩
theorem BO{W:World}{B:Nat}{cs:Array Value}{t:TypeId}(h:W.heap[B]?=some (.cells cs t (0,0)))(j:Nat)(v:Value):(W.setCell ⟨B,j,none⟩ v).heap[B]?=some (.cells (cs.setIfInBounds j v) t (0,0)):=by
 simp only [World.setCell,Array.getElem?_modify,h,if_true,Option.map_some];rfl
def ItP(Rn Qn:List Nm)(T:Lt)(ns:List Int)(w:World)(e:Ending)(w':World):Prop :=
 (∃a v,BA Rn Qn T.strip ns=some a∧e=.returned (.tuple #[v,.bool true])∧ClP T a w (.returned v) w') ∨
 (BA Rn Qn T.strip ns=none∧e=.returned (.tuple #[.slice none 0 0,.bool false])∧Below w.heap.size w w')
theorem MovP.none{Rn:List Nm}{ms:List Mov}{ns:List Int}{V:World}{e:Ending}{w':World}(h:MovP Rn ms ns V e w')(hr:BZ Rn ms ns=none):e=.returned (.tuple #[.slice none 0 0,.bool false])∧Below V.heap.size V w':=by
 rcases h with ⟨a,_,_,h,_⟩|⟨_,h⟩
 ·rw [hr] at h;cases h
 ·exact h
theorem MovP.some{Rn:List Nm}{ms:List Mov}{ns a:List Int}{V:World}{e:Ending}{w':World}(h:MovP Rn ms ns V e w')(hr:BZ Rn ms ns=some a):∃ma5 mc5,e=.returned (.tuple #[.slice ma5 ms.length mc5,.bool true])∧MvNew V.heap.size ms a ma5 w'∧Below V.heap.size V w':=by
 rcases h with ⟨a',ma5,mc5,h,h2,h3,h4⟩|⟨h,_⟩
 ·rw [hr] at h;cases h;exact ⟨ma5,mc5,h2,h3,h4⟩
 ·rw [hr] at h;cases h
theorem ItP.none{Rn Qn:List Nm}{T:Lt}{ns:List Int}{V:World}{e:Ending}{w':World}(h:ItP Rn Qn T ns V e w')(hr:BA Rn Qn T.strip ns=none):e=.returned (.tuple #[.slice none 0 0,.bool false])∧Below V.heap.size V w':=by
 rcases h with ⟨a,_,h,_⟩|⟨_,h⟩
 ·rw [hr] at h;cases h
 ·exact h
theorem ItP.some{Rn Qn:List Nm}{T:Lt}{ns a:List Int}{V:World}{e:Ending}{w':World}(h:ItP Rn Qn T ns V e w')(hr:BA Rn Qn T.strip ns=some a):∃ao co,e=.returned (.tuple #[.slice ao T.len co,.bool true])∧ClP T a V (.returned (.slice ao T.len co)) w'∧Below V.heap.size V w':=by
 rcases h with ⟨a',v',h,h2,h3⟩|⟨h,_⟩
 ·rw [hr] at h;cases h
  obtain ⟨ao,co,T',h4,h5⟩:=h3;cases h4;exact ⟨ao,co,h2,⟨ao,co,T',rfl,h5⟩,h5.2.2.2.2.2.2⟩
 ·rw [hr] at h;cases h
theorem Re{Rn Qn:List Nm}{T:Lt}{ns n1:List Int}{k n u:Int}{un:Nm}{ia:Option Addr}{ic:Nat}{its:Lt}{ma:Option Addr}{mc:Nat}{ms:List Mov}{r:Lt}{m1 m2 m3:List Int}{w:World}
  (h:BA Rn Qn T.strip ns=(BA Rn Qn (Lt.cons k n un ia ic its ma mc ms r).strip (u::(m1++(m2++m3)))).map (n1++·)) (k1:NsAt w (Aq (blk ma) (off ma) ms) m1) (k2:NsAt w (its.refsL (blk ia) (off ia)) m2) :
  BA Rn Qn T.strip ns=(if ptB Qn (Cd k) un u=true∧FO k=true then (BZ Rn ms m1).bind λa=>(BA Rn Qn its.strip m2).bind λb=>(BA Rn Qn r.strip m3).map λc=>n1++(ptN Qn (Cd k) un u::(a++b))++c else none):=by
 rw [h];simp only [Lt.strip];rw [LJ Rn Qn (by rw [k1.len,DH]) (by rw [k2.len,← List.length_map (f:=RefL.key),Lt.refsL_key])]
 split
 ·cases BZ Rn ms m1<;>simp
  cases BA Rn Qn its.strip m2<;>simp;cases BA Rn Qn r.strip m3<;>simp
 ·rfl
theorem LK(Rn Qn:List Nm)(v u9:Value)(T:Lt)(ns:List Int)(b o c n9:Nat)(w:World)(hr:StrRow w v Rn)(hq:StrRow w u9 Qn)(hx:Rn.length≤100000)(hy:Qn.length≤100000)(hl:T.len=n9)(Hd:n9≤100000)
  (hI:∀T':Lt,T'.size<T.size→∀(ia:Option Addr) (ic:Nat) (ns:List Int) (W:World),StrRow W v Rn→StrRow W u9 Qn→T'.len≤100000→(T'.len=0∨ia=some ⟨blk ia,off ia,none⟩)→T'.At W (blk ia) (off ia)→NsAt W (T'.refsL (blk ia) (off ia)) ns→T'.small→Calls Tryz.prog 83 #[.slice ia T'.len ic,v,u9] W (ItP Rn Qn T' ns W))
  (hS:CpT T w b o 0 .nil T [] ns (.slice none 0 0) [] w):Calls Tryz.prog 83 #[.slice (some ⟨b,o,none⟩) n9 c,v,u9] w (ItP Rn Qn T ns w):=by
 obtain ⟨i0,HC,HY,HZ,Ha⟩:=info_parts Pm;have I85:=qh (And.intro HC (And.intro HY (And.intro HZ Ha)));have HS:=qh hS;have HR:=qh hr;have HQ:=qh hq;have HL:=qh hl;have HI:=qh hI;clear HC HY HZ Ha hS hr hq hl hI;go_enter Tryz.func83,Tryz.ntmps83;go_wp2_with fail;go_loopw [8,9] (λov iv wr=>∃(i:Nat) (A R:Lt) (n1 n2:List Int) (xs:List Value),iv=int i64 i∧i+R.len=n9∧Hid (CpT T w b o i A R n1 n2 ov xs wr∧BA Rn Qn T.strip ns=(BA Rn Qn R.strip n2).map (n1++·))) (λ_ iv _=>n9+1-(intOf iv).toNat)
 case atStart=>exact ⟨0,.nil,T,[],ns,[],rfl,by rw [HL.out];omega,qh ⟨HS.out,by simp⟩⟩
 case round =>
  obtain ⟨i,A,R,n1,n2,xs,rfl,HN,hS⟩:=hrel
  cases R with
  | nil =>
   simp only [Lt.len,Nat.add_zero] at HN;subst HN;go_wp2_with fail;refine bodyPost_ret (v:=.tuple #[u8,.bool true]) ?_ rfl ?_
   ·simp [results,Tryz.results83,go_sem]
   ·have He:n2=[]:=by
     have:=hS.out.1.nsR
     cases n2 with
     | nil=>rfl
     | cons=>exact this.elim
    have hq:=hS.out.2;rw [He] at hq;exact Or.inl ⟨n1,u8,by rw [hq];simp [Lt.strip,BA,Its.kinds,Its.refs,Ax],rfl,SU hS.out.1⟩
  | cons kd nn un ia ic its ma mc ms r =>
   simp only [Lt.len] at HN;have hi:(i:Int)<(n9:Int):=by omega
   have h:=hS.out.1;obtain ⟨u,g0,g1,g2,g3,g4,g5,m1,m2,m3,HD,k1,k2,k3⟩:=Lt.At.cells h.atR h.nsR;obtain ⟨_,⟨f1,f2,f3⟩,⟨i1,i2,i3⟩,Hf⟩:=h.atR;obtain ⟨s1,s2,s3',s4⟩:=h.small;have Hb:its.size<T.size:=by have:=h.size;simp only [Lt.size] at this;omega
   have hP:=h.below;have HE:=h.own;have ho:=hP.size;have hX:=hS.out.2;rw [HD] at hX;have HO:=Re hX k1 k2;have c0:=Ac hP g0;have c1:=Ac hP g1;have c2:=Ac hP g2;have c3:=Ac hP g3;have c4:=Ac hP g4;have c5:=Ac hP g5;clear g0 g1 g2 g3 g4 g5;obtain ⟨fi,HP⟩:∃fi,ptN Qn (Cd kd) un u=fi:=⟨_,rfl⟩;obtain ⟨ok,HT⟩:∃ok,ptB Qn (Cd kd) un u=ok:=⟨_,rfl⟩;obtain ⟨W2,Hh,gW2,bW2,sW2⟩:=Ag wr #[int i64 kd,int i64 nn,sv un,int i64 u,.slice ia its.len ic,.slice ma ms.length mc] 48;have hp:=qh gW2;have hs:=qh bW2;have Hi:Hid (wr.heap.size<W2.heap.size):=qh (by omega);have z0:W2.cell? ⟨wr.heap.size,0,none⟩=some (int i64 kd):=Aa gW2 0 rfl;have z2:W2.cell? ⟨wr.heap.size,2,none⟩=some (sv un):=Aa gW2 2 rfl;have z3:W2.cell? ⟨wr.heap.size,3,none⟩=some (int i64 u):=Aa gW2 3 rfl;have CP:=ED Qn u9 (Cd kd) un u W2 (HQ.out.below (Ad hP bW2)) hy;unfold JI at CP;rw [HP,HT] at CP;rw [HP,HT] at HO
   have CM:∀V,Below wr.heap.size wr V→Calls Tryz.prog 102 #[.slice ma ms.length mc,v] V (MovP Rn ms m1 V):=λV hb =>
    Nq Rn v ms m1 ma mc V (HR.out.below (hP.trans (hb.mono ho))) hx s2 f1 (C6 f3 (hP.trans (hb.mono ho))) (k1.below (hP.trans (hb.mono ho)))
   have CI:∀V,Below wr.heap.size wr V→Calls Tryz.prog 83 #[.slice ia its.len ic,v,u9] V (ItP Rn Qn its m2 V):=λV hb =>
    HI.out its Hb ia ic m2 V (HR.out.below (hP.trans (hb.mono ho))) (HQ.out.below (hP.trans (hb.mono ho))) s1 i1 (i3.below (hP.trans (hb.mono ho))) (k2.below (hP.trans (hb.mono ho))) s3'
   have HX:=qh HO;have HF:=qh HE;have h1:=qh hP;have ht:=qh ho;have HB:=qh CM;have HM:=qh CI;have Hc:=qh k3;clear h hP HE ho hX HO gW2 bW2 sW2 HP HT CM CI Hf s1 s2 s3' s4 f1 f2 f3 i1 i2 i3 k1 k2 k3 HD Hb;by_cases HU:kd=4
   ·subst HU
    have ha:=qh (show Calls Tryz.prog 84 #[.agg #[sv un,int i64 u],.bool true,u9] W2 _ from CP);clear CP;rcases AY ok with rfl|rfl
    ·skip
     go_wp2_with (first
      | (go_at_call 84;refine ha.out.mono ?_;rintro e w5 ⟨rfl,hF⟩;obtain ⟨W6,hv,g6,bW6,sW6⟩:=Ag w5 #[sv un,int i64 fi] 44;have hG:=Ah (Ad hF bW6) hp.out;have hC:=qh hG;have hD:=qh (Ad hs.out (Ad hF bW6));have y0:W6.cell? ⟨wr.heap.size,0,none⟩=some (int i64 4):=Aa hG 0 rfl;have y8:W6.cell? ⟨w5.heap.size,0,none⟩=some (sv un):=Aa g6 0 rfl;have y9:W6.cell? ⟨w5.heap.size,1,none⟩=some (int i64 fi):=Aa g6 1 rfl;clear g6 bW6 sW6 hG hF z0 z2 z3 c0 c1 c2 c3 c4 c5;obtain ⟨W7,hK,gX7,b67⟩:=B5 (o:=2) hC.out (sv un) (int i64 fi);have gX7:W7.heap[wr.heap.size]?=some (.cells #[int i64 4,int i64 nn,sv un,int i64 fi,.slice ia its.len ic,.slice ma ms.length mc] 48 (0,0)):=gX7;have b27:Below wr.heap.size wr W7:=hD.out.trans (b67.below (by have:=hD.out.size;have:=(qs.1 hC.out).1;omega) (by have:=hD.out.size;have:=(qs.1 hC.out).1;omega));have hV:=qh hK;have hB:=qh gX7;have hL:=qh b27;clear hK gX7 b67 b27))
     refine bodyPost_ret (v:=.tuple #[.slice none 0 0,.bool false]) ?_ rfl ?_
     ·simp [results,Tryz.results83,go_sem]
     ·exact Or.inr ⟨by rw [HX.out];simp,rfl,h1.out.trans (Below.mono hD.out ht.out)⟩
    rcases hY:BZ Rn ms m1 with _|a
    ·have hw:=qh (λe V w' (h:MovP Rn ms m1 V e w')=>h.none hY)
     rw [hY] at HX;clear hY
     go_wp2_with (first
      | (go_at_call 84;refine ha.out.mono ?_;rintro e w5 ⟨rfl,hF⟩;obtain ⟨W6,hv,g6,bW6,sW6⟩:=Ag w5 #[sv un,int i64 fi] 44;have hG:=Ah (Ad hF bW6) hp.out;have hC:=qh hG;have hD:=qh (Ad hs.out (Ad hF bW6));have y0:W6.cell? ⟨wr.heap.size,0,none⟩=some (int i64 4):=Aa hG 0 rfl;have y8:W6.cell? ⟨w5.heap.size,0,none⟩=some (sv un):=Aa g6 0 rfl;have y9:W6.cell? ⟨w5.heap.size,1,none⟩=some (int i64 fi):=Aa g6 1 rfl;clear g6 bW6 sW6 hG hF z0 z2 z3 c0 c1 c2 c3 c4 c5;obtain ⟨W7,hK,gX7,b67⟩:=B5 (o:=2) hC.out (sv un) (int i64 fi);have gX7:W7.heap[wr.heap.size]?=some (.cells #[int i64 4,int i64 nn,sv un,int i64 fi,.slice ia its.len ic,.slice ma ms.length mc] 48 (0,0)):=gX7;have b27:Below wr.heap.size wr W7:=hD.out.trans (b67.below (by have:=hD.out.size;have:=(qs.1 hC.out).1;omega) (by have:=hD.out.size;have:=(qs.1 hC.out).1;omega));have hV:=qh hK;have hB:=qh gX7;have hL:=qh b27;clear hK gX7 b67 b27)
      | (refine wpList_store_mid rfl 44 _ _ rfl wr.heap.size 2 #[sv un,int i64 fi] rfl rfl (CO hC.out (by simp)) (by kernel_rfl) (by simp [Value.oneCell']) ?_;rw [hV.out];clear y0 y8 y9;have x5:W7.cell? ⟨wr.heap.size,5,none⟩=some (.slice ma ms.length mc):=Aa hB.out 5 rfl)
      | (go_at_call 102;refine (HB.out W7 hL.out).mono ?_;rintro e w8 hQ;obtain ⟨rfl,hM⟩:=hw.out _ _ _ hQ;clear x5 hQ;have hE:=Ah hM hB.out;have h2:=qh hE;have hW:=qh (hL.out.trans (hM.mono hL.out.size));have e4:w8.cell? ⟨wr.heap.size,4,none⟩=some (.slice ia its.len ic):=Aa hE 4 rfl;have e5:w8.cell? ⟨wr.heap.size,5,none⟩=some (.slice ma ms.length mc):=Aa hE 5 rfl;have q8:w8.frozen? ⟨wr.heap.size,5,none⟩=false:=(show FreeB w8 wr.heap.size from ⟨_,_,hE⟩).free 5;obtain ⟨W9,hH⟩:∃W9,w8.setCell ⟨wr.heap.size,5,none⟩ (.slice none 0 0)=W9:=⟨_,rfl⟩;have hR:W9.heap[wr.heap.size]?=some (.cells #[int i64 4,int i64 nn,sv un,int i64 fi,.slice ia its.len ic,.slice none 0 0] 48 (0,0)):=(by rw [← hH];exact BO hE 5 _);have hz:=qh hR;have hT:Hid (Below wr.heap.size wr W9):=qh (by rw [← hH];exact hW.out.setCell (p:=⟨wr.heap.size,5,none⟩) (qn _) _);have h3:Hid (ButOne wr.heap.size w8 W9):=qh (by rw [← hH];exact ButOne.setCell (p:=⟨wr.heap.size,5,none⟩) _);have h0:=qh hH;clear hH hR hE hM))
     refine bodyPost_ret (v:=.tuple #[.slice none 0 0,.bool false]) ?_ rfl ?_
     ·simp [results,Tryz.results83,go_sem]
     ·exact Or.inr ⟨by rw [HX.out];simp,rfl,h1.out.trans (Below.mono (show Below wr.heap.size wr (w8.setCell ⟨wr.heap.size,5,none⟩ (.slice none 0 0)) from hW.out.setCell (p:=⟨wr.heap.size,5,none⟩) (qn _) _) ht.out)⟩
    have hw:=qh (λe V w' (h:MovP Rn ms m1 V e w')=>h.some hY);rw [hY] at HX;clear hY;rcases hZ:BA Rn Qn its.strip m2 with _|bb
    ·have h4:=qh (λe V w' (h:ItP Rn Qn its m2 V e w')=>h.none hZ)
     rw [hZ] at HX;clear hZ
     go_wp2_with (first
      | (go_at_call 84;refine ha.out.mono ?_;rintro e w5 ⟨rfl,hF⟩;obtain ⟨W6,hv,g6,bW6,sW6⟩:=Ag w5 #[sv un,int i64 fi] 44;have hG:=Ah (Ad hF bW6) hp.out;have hC:=qh hG;have hD:=qh (Ad hs.out (Ad hF bW6));have y0:W6.cell? ⟨wr.heap.size,0,none⟩=some (int i64 4):=Aa hG 0 rfl;have y8:W6.cell? ⟨w5.heap.size,0,none⟩=some (sv un):=Aa g6 0 rfl;have y9:W6.cell? ⟨w5.heap.size,1,none⟩=some (int i64 fi):=Aa g6 1 rfl;clear g6 bW6 sW6 hG hF z0 z2 z3 c0 c1 c2 c3 c4 c5;obtain ⟨W7,hK,gX7,b67⟩:=B5 (o:=2) hC.out (sv un) (int i64 fi);have gX7:W7.heap[wr.heap.size]?=some (.cells #[int i64 4,int i64 nn,sv un,int i64 fi,.slice ia its.len ic,.slice ma ms.length mc] 48 (0,0)):=gX7;have b27:Below wr.heap.size wr W7:=hD.out.trans (b67.below (by have:=hD.out.size;have:=(qs.1 hC.out).1;omega) (by have:=hD.out.size;have:=(qs.1 hC.out).1;omega));have hV:=qh hK;have hB:=qh gX7;have hL:=qh b27;clear hK gX7 b67 b27)
      | (refine wpList_store_mid rfl 44 _ _ rfl wr.heap.size 2 #[sv un,int i64 fi] rfl rfl (CO hC.out (by simp)) (by kernel_rfl) (by simp [Value.oneCell']) ?_;rw [hV.out];clear y0 y8 y9;have x5:W7.cell? ⟨wr.heap.size,5,none⟩=some (.slice ma ms.length mc):=Aa hB.out 5 rfl)
      | (go_at_call 102;refine (HB.out W7 hL.out).mono ?_;rintro e w8 hQ;obtain ⟨ma5,mc5,rfl,hc,hM⟩:=hw.out _ _ _ hQ;have HG:=qh hc;clear hc;clear x5 hQ;have hE:=Ah hM hB.out;have h2:=qh hE;have hW:=qh (hL.out.trans (hM.mono hL.out.size));have e4:w8.cell? ⟨wr.heap.size,4,none⟩=some (.slice ia its.len ic):=Aa hE 4 rfl;have e5:w8.cell? ⟨wr.heap.size,5,none⟩=some (.slice ma ms.length mc):=Aa hE 5 rfl;have q8:w8.frozen? ⟨wr.heap.size,5,none⟩=false:=(show FreeB w8 wr.heap.size from ⟨_,_,hE⟩).free 5;obtain ⟨W9,hH⟩:∃W9,w8.setCell ⟨wr.heap.size,5,none⟩ (.slice ma5 ms.length mc5)=W9:=⟨_,rfl⟩;have hR:W9.heap[wr.heap.size]?=some (.cells #[int i64 4,int i64 nn,sv un,int i64 fi,.slice ia its.len ic,.slice ma5 ms.length mc5] 48 (0,0)):=(by rw [← hH];exact BO hE 5 _);have hz:=qh hR;have hT:Hid (Below wr.heap.size wr W9):=qh (by rw [← hH];exact hW.out.setCell (p:=⟨wr.heap.size,5,none⟩) (qn _) _);have h3:Hid (ButOne wr.heap.size w8 W9):=qh (by rw [← hH];exact ButOne.setCell (p:=⟨wr.heap.size,5,none⟩) _);have h0:=qh hH;clear hH hR hE hM)
      | (go_at_call 83;rw [h0.out];refine (HM.out W9 hT.out).mono ?_;rintro e w10 hN;obtain ⟨rfl,hJ⟩:=h4.out _ _ _ hN;clear e4 e5 q8 hN;have hA:=Ah hJ hz.out;have hd:wr.heap.size<w10.heap.size:=(qs.1 hA).1;have hO:=qh (hT.out.trans (hJ.mono hT.out.size));have y0:=Aa hA 0 rfl;have y1:=Aa hA 1 rfl;have y2:=Aa hA 2 rfl;have y3:=Aa hA 3 rfl;have y4:=Aa hA 4 rfl;have y5:=Aa hA 5 rfl;have q10:w10.frozen? ⟨wr.heap.size,4,none⟩=false:=(show FreeB w10 wr.heap.size from ⟨_,_,hA⟩).free 4;clear hA hJ))
     refine bodyPost_ret (v:=.tuple #[.slice none 0 0,.bool false]) ?_ rfl ?_
     ·simp [results,Tryz.results83,go_sem]
     ·exact Or.inr ⟨by rw [HX.out];simp,rfl,h1.out.trans (Below.mono (show Below wr.heap.size wr (w10.setCell ⟨wr.heap.size,4,none⟩ (.slice none 0 0)) from hO.out.setCell (p:=⟨wr.heap.size,4,none⟩) (qn _) _) ht.out)⟩
    have h4:=qh (λe V w' (h:ItP Rn Qn its m2 V e w')=>h.some hZ);rw [hZ] at HX;clear hZ
    go_wp2_with (first
     | (go_at_call 84;refine ha.out.mono ?_;rintro e w5 ⟨rfl,hF⟩;obtain ⟨W6,hv,g6,bW6,sW6⟩:=Ag w5 #[sv un,int i64 fi] 44;have hG:=Ah (Ad hF bW6) hp.out;have hC:=qh hG;have hD:=qh (Ad hs.out (Ad hF bW6));have y0:W6.cell? ⟨wr.heap.size,0,none⟩=some (int i64 4):=Aa hG 0 rfl;have y8:W6.cell? ⟨w5.heap.size,0,none⟩=some (sv un):=Aa g6 0 rfl;have y9:W6.cell? ⟨w5.heap.size,1,none⟩=some (int i64 fi):=Aa g6 1 rfl;clear g6 bW6 sW6 hG hF z0 z2 z3 c0 c1 c2 c3 c4 c5;obtain ⟨W7,hK,gX7,b67⟩:=B5 (o:=2) hC.out (sv un) (int i64 fi);have gX7:W7.heap[wr.heap.size]?=some (.cells #[int i64 4,int i64 nn,sv un,int i64 fi,.slice ia its.len ic,.slice ma ms.length mc] 48 (0,0)):=gX7;have b27:Below wr.heap.size wr W7:=hD.out.trans (b67.below (by have:=hD.out.size;have:=(qs.1 hC.out).1;omega) (by have:=hD.out.size;have:=(qs.1 hC.out).1;omega));have hV:=qh hK;have hB:=qh gX7;have hL:=qh b27;clear hK gX7 b67 b27)
     | (refine wpList_store_mid rfl 44 _ _ rfl wr.heap.size 2 #[sv un,int i64 fi] rfl rfl (CO hC.out (by simp)) (by kernel_rfl) (by simp [Value.oneCell']) ?_;rw [hV.out];clear y0 y8 y9;have x5:W7.cell? ⟨wr.heap.size,5,none⟩=some (.slice ma ms.length mc):=Aa hB.out 5 rfl)
     | (go_at_call 102;refine (HB.out W7 hL.out).mono ?_;rintro e w8 hQ;obtain ⟨ma5,mc5,rfl,hc,hM⟩:=hw.out _ _ _ hQ;have HG:=qh hc;clear hc;clear x5 hQ;have hE:=Ah hM hB.out;have h2:=qh hE;have hW:=qh (hL.out.trans (hM.mono hL.out.size));have e4:w8.cell? ⟨wr.heap.size,4,none⟩=some (.slice ia its.len ic):=Aa hE 4 rfl;have e5:w8.cell? ⟨wr.heap.size,5,none⟩=some (.slice ma ms.length mc):=Aa hE 5 rfl;have q8:w8.frozen? ⟨wr.heap.size,5,none⟩=false:=(show FreeB w8 wr.heap.size from ⟨_,_,hE⟩).free 5;obtain ⟨W9,hH⟩:∃W9,w8.setCell ⟨wr.heap.size,5,none⟩ (.slice ma5 ms.length mc5)=W9:=⟨_,rfl⟩;have hR:W9.heap[wr.heap.size]?=some (.cells #[int i64 4,int i64 nn,sv un,int i64 fi,.slice ia its.len ic,.slice ma5 ms.length mc5] 48 (0,0)):=(by rw [← hH];exact BO hE 5 _);have hz:=qh hR;have hT:Hid (Below wr.heap.size wr W9):=qh (by rw [← hH];exact hW.out.setCell (p:=⟨wr.heap.size,5,none⟩) (qn _) _);have h3:Hid (ButOne wr.heap.size w8 W9):=qh (by rw [← hH];exact ButOne.setCell (p:=⟨wr.heap.size,5,none⟩) _);have h0:=qh hH;clear hH hR hE hM)
     | (go_at_call 83;rw [h0.out];refine (HM.out W9 hT.out).mono ?_;rintro e w10 hN;obtain ⟨ao,co,rfl,HH,hJ⟩:=h4.out _ _ _ hN;have HV:=qh HH;clear HH;clear e4 e5 q8 hN;have hA:=Ah hJ hz.out;have hd:wr.heap.size<w10.heap.size:=(qs.1 hA).1;have hO:=qh (hT.out.trans (hJ.mono hT.out.size));have y0:=Aa hA 0 rfl;have y1:=Aa hA 1 rfl;have y2:=Aa hA 2 rfl;have y3:=Aa hA 3 rfl;have y4:=Aa hA 4 rfl;have y5:=Aa hA 5 rfl;have q10:w10.frozen? ⟨wr.heap.size,4,none⟩=false:=(show FreeB w10 wr.heap.size from ⟨_,_,hA⟩).free 4;clear hA hJ;obtain ⟨w11,he,hf,hg,hU,hh⟩:=OG w10 wr.heap.size w10.heap.size ao its.len co #[int i64 4,int i64 nn,sv un,int i64 fi,.slice ao its.len co,.slice ma5 ms.length mc5] rfl hd hO.out (UD _ _ _ _ _ _ rfl rfl);have h5:=qh he;have h6:=qh hf;have hj:=qh hg;have hk:=qh hU;have h7:=qh hh;clear he hf hg hU hh)
     | (at_builtin;rw [h5.out];refine AL rfl _ _ 45 rfl w.heap.size 48 i0 _ 6 88 Tryz.underlying45 I85.out.1 I85.out.2.1 I85.out.2.2.1 I85.out.2.2.2 rfl (by decide) _ i xs rfl (Dy HF.out h6.out) (some ⟨w10.heap.size,0,none⟩) 1 1 [int i64 4,int i64 nn,sv un,int i64 fi,.slice ao its.len co,.slice ma5 ms.length mc5] rfl rfl (λe=>by cases e) hj.out.1 hj.out.2 (by unfold maxLen;omega) (by omega) (by have:=h7.out;have:=hO.out.size;have:=ht.out;omega) ?_;intro v9 w12 hm hn HJ;have h8:=qh hm;have h9:=qh hn;have HW:=qh HJ;clear hm hn HJ))
    obtain ⟨A',HK⟩:=Mx hS.out.1 Hc.out rfl hW.out (qs.1 h2.out).1 (HG.out.lower (qs.1 hB.out).1) h3.out HV.out hk.out h8.out h9.out HW.out;have HA:=qh (And.intro HK (show BA Rn Qn T.strip ns=(BA Rn Qn r.strip m3).map ((n1++(fi::(a++bb)))++·) by rw [HX.out,if_pos ⟨by trivial,by rfl⟩];rfl));clear HK;go_roundw
    case rel=>exact ⟨i+1,A',r,_,_,_,by go_num,by omega,HA⟩
    case measure=>simp [intOf];omega
   have hu:Cd kd=false:=by unfold Cd;rw [decide_eq_false HU]
   rw [hu] at CP;have ha:=qh CP;clear CP hu;have Hg:(kd==4)=false:=by simpa using HU
   rcases AY ok with rfl|rfl
   ·skip
    go_wp2_with (first
     | (go_at_call 84;refine ha.out.mono ?_;rintro e w5 ⟨rfl,hF⟩;obtain ⟨W6,hv,g6,bW6,sW6⟩:=Ag w5 #[sv un,int i64 fi] 44;have hG:=Ah (Ad hF bW6) hp.out;have hC:=qh hG;have hD:=qh (Ad hs.out (Ad hF bW6));have y0:W6.cell? ⟨wr.heap.size,0,none⟩=some (int i64 kd):=Aa hG 0 rfl;have y8:W6.cell? ⟨w5.heap.size,0,none⟩=some (sv un):=Aa g6 0 rfl;have y9:W6.cell? ⟨w5.heap.size,1,none⟩=some (int i64 fi):=Aa g6 1 rfl;clear g6 bW6 sW6 hG hF z0 z2 z3 c0 c1 c2 c3 c4 c5;obtain ⟨W7,hK,gX7,b67⟩:=B5 (o:=2) hC.out (sv un) (int i64 fi);have gX7:W7.heap[wr.heap.size]?=some (.cells #[int i64 kd,int i64 nn,sv un,int i64 fi,.slice ia its.len ic,.slice ma ms.length mc] 48 (0,0)):=gX7;have b27:Below wr.heap.size wr W7:=hD.out.trans (b67.below (by have:=hD.out.size;have:=(qs.1 hC.out).1;omega) (by have:=hD.out.size;have:=(qs.1 hC.out).1;omega));have hV:=qh hK;have hB:=qh gX7;have hL:=qh b27;clear hK gX7 b67 b27))
    refine bodyPost_ret (v:=.tuple #[.slice none 0 0,.bool false]) ?_ rfl ?_
    ·simp [results,Tryz.results83,go_sem]
    ·exact Or.inr ⟨by rw [HX.out];simp,rfl,h1.out.trans (Below.mono hD.out ht.out)⟩
   by_cases ho:kd<1
   ·skip
    go_wp2_with (first
     | (go_at_call 84;refine ha.out.mono ?_;rintro e w5 ⟨rfl,hF⟩;obtain ⟨W6,hv,g6,bW6,sW6⟩:=Ag w5 #[sv un,int i64 fi] 44;have hG:=Ah (Ad hF bW6) hp.out;have hC:=qh hG;have hD:=qh (Ad hs.out (Ad hF bW6));have y0:W6.cell? ⟨wr.heap.size,0,none⟩=some (int i64 kd):=Aa hG 0 rfl;have y8:W6.cell? ⟨w5.heap.size,0,none⟩=some (sv un):=Aa g6 0 rfl;have y9:W6.cell? ⟨w5.heap.size,1,none⟩=some (int i64 fi):=Aa g6 1 rfl;clear g6 bW6 sW6 hG hF z0 z2 z3 c0 c1 c2 c3 c4 c5;obtain ⟨W7,hK,gX7,b67⟩:=B5 (o:=2) hC.out (sv un) (int i64 fi);have gX7:W7.heap[wr.heap.size]?=some (.cells #[int i64 kd,int i64 nn,sv un,int i64 fi,.slice ia its.len ic,.slice ma ms.length mc] 48 (0,0)):=gX7;have b27:Below wr.heap.size wr W7:=hD.out.trans (b67.below (by have:=hD.out.size;have:=(qs.1 hC.out).1;omega) (by have:=hD.out.size;have:=(qs.1 hC.out).1;omega));have hV:=qh hK;have hB:=qh gX7;have hL:=qh b27;clear hK gX7 b67 b27))
    refine bodyPost_ret (v:=.tuple #[.slice none 0 0,.bool false]) ?_ rfl ?_
    ·simp [results,Tryz.results83,go_sem]
    ·exact Or.inr ⟨by rw [HX.out];rw [if_neg (λh=>by have:=h.2;unfold FO at this;simp at this;omega)],rfl,h1.out.trans (Below.mono hD.out ht.out)⟩
   by_cases Hj:4<kd
   ·skip
    go_wp2_with (first
     | (go_at_call 84;refine ha.out.mono ?_;rintro e w5 ⟨rfl,hF⟩;obtain ⟨W6,hv,g6,bW6,sW6⟩:=Ag w5 #[sv un,int i64 fi] 44;have hG:=Ah (Ad hF bW6) hp.out;have hC:=qh hG;have hD:=qh (Ad hs.out (Ad hF bW6));have y0:W6.cell? ⟨wr.heap.size,0,none⟩=some (int i64 kd):=Aa hG 0 rfl;have y8:W6.cell? ⟨w5.heap.size,0,none⟩=some (sv un):=Aa g6 0 rfl;have y9:W6.cell? ⟨w5.heap.size,1,none⟩=some (int i64 fi):=Aa g6 1 rfl;clear g6 bW6 sW6 hG hF z0 z2 z3 c0 c1 c2 c3 c4 c5;obtain ⟨W7,hK,gX7,b67⟩:=B5 (o:=2) hC.out (sv un) (int i64 fi);have gX7:W7.heap[wr.heap.size]?=some (.cells #[int i64 kd,int i64 nn,sv un,int i64 fi,.slice ia its.len ic,.slice ma ms.length mc] 48 (0,0)):=gX7;have b27:Below wr.heap.size wr W7:=hD.out.trans (b67.below (by have:=hD.out.size;have:=(qs.1 hC.out).1;omega) (by have:=hD.out.size;have:=(qs.1 hC.out).1;omega));have hV:=qh hK;have hB:=qh gX7;have hL:=qh b27;clear hK gX7 b67 b27))
    refine bodyPost_ret (v:=.tuple #[.slice none 0 0,.bool false]) ?_ rfl ?_
    ·simp [results,Tryz.results83,go_sem]
    ·exact Or.inr ⟨by rw [HX.out];rw [if_neg (λh=>by have:=h.2;unfold FO at this;simp at this;omega)],rfl,h1.out.trans (Below.mono hD.out ht.out)⟩
   rcases hY:BZ Rn ms m1 with _|a
   ·have hw:=qh (λe V w' (h:MovP Rn ms m1 V e w')=>h.none hY)
    rw [hY] at HX;clear hY
    go_wp2_with (first
     | (go_at_call 84;refine ha.out.mono ?_;rintro e w5 ⟨rfl,hF⟩;obtain ⟨W6,hv,g6,bW6,sW6⟩:=Ag w5 #[sv un,int i64 fi] 44;have hG:=Ah (Ad hF bW6) hp.out;have hC:=qh hG;have hD:=qh (Ad hs.out (Ad hF bW6));have y0:W6.cell? ⟨wr.heap.size,0,none⟩=some (int i64 kd):=Aa hG 0 rfl;have y8:W6.cell? ⟨w5.heap.size,0,none⟩=some (sv un):=Aa g6 0 rfl;have y9:W6.cell? ⟨w5.heap.size,1,none⟩=some (int i64 fi):=Aa g6 1 rfl;clear g6 bW6 sW6 hG hF z0 z2 z3 c0 c1 c2 c3 c4 c5;obtain ⟨W7,hK,gX7,b67⟩:=B5 (o:=2) hC.out (sv un) (int i64 fi);have gX7:W7.heap[wr.heap.size]?=some (.cells #[int i64 kd,int i64 nn,sv un,int i64 fi,.slice ia its.len ic,.slice ma ms.length mc] 48 (0,0)):=gX7;have b27:Below wr.heap.size wr W7:=hD.out.trans (b67.below (by have:=hD.out.size;have:=(qs.1 hC.out).1;omega) (by have:=hD.out.size;have:=(qs.1 hC.out).1;omega));have hV:=qh hK;have hB:=qh gX7;have hL:=qh b27;clear hK gX7 b67 b27)
     | (refine wpList_store_mid rfl 44 _ _ rfl wr.heap.size 2 #[sv un,int i64 fi] rfl rfl (CO hC.out (by simp)) (by kernel_rfl) (by simp [Value.oneCell']) ?_;rw [hV.out];clear y0 y8 y9;have x5:W7.cell? ⟨wr.heap.size,5,none⟩=some (.slice ma ms.length mc):=Aa hB.out 5 rfl)
     | (go_at_call 102;refine (HB.out W7 hL.out).mono ?_;rintro e w8 hQ;obtain ⟨rfl,hM⟩:=hw.out _ _ _ hQ;clear x5 hQ;have hE:=Ah hM hB.out;have h2:=qh hE;have hW:=qh (hL.out.trans (hM.mono hL.out.size));have e4:w8.cell? ⟨wr.heap.size,4,none⟩=some (.slice ia its.len ic):=Aa hE 4 rfl;have e5:w8.cell? ⟨wr.heap.size,5,none⟩=some (.slice ma ms.length mc):=Aa hE 5 rfl;have q8:w8.frozen? ⟨wr.heap.size,5,none⟩=false:=(show FreeB w8 wr.heap.size from ⟨_,_,hE⟩).free 5;obtain ⟨W9,hH⟩:∃W9,w8.setCell ⟨wr.heap.size,5,none⟩ (.slice none 0 0)=W9:=⟨_,rfl⟩;have hR:W9.heap[wr.heap.size]?=some (.cells #[int i64 kd,int i64 nn,sv un,int i64 fi,.slice ia its.len ic,.slice none 0 0] 48 (0,0)):=(by rw [← hH];exact BO hE 5 _);have hz:=qh hR;have hT:Hid (Below wr.heap.size wr W9):=qh (by rw [← hH];exact hW.out.setCell (p:=⟨wr.heap.size,5,none⟩) (qn _) _);have h3:Hid (ButOne wr.heap.size w8 W9):=qh (by rw [← hH];exact ButOne.setCell (p:=⟨wr.heap.size,5,none⟩) _);have h0:=qh hH;clear hH hR hE hM))
    refine bodyPost_ret (v:=.tuple #[.slice none 0 0,.bool false]) ?_ rfl ?_
    ·simp [results,Tryz.results83,go_sem]
    ·exact Or.inr ⟨by rw [HX.out];simp,rfl,h1.out.trans (Below.mono (show Below wr.heap.size wr (w8.setCell ⟨wr.heap.size,5,none⟩ (.slice none 0 0)) from hW.out.setCell (p:=⟨wr.heap.size,5,none⟩) (qn _) _) ht.out)⟩
   have hw:=qh (λe V w' (h:MovP Rn ms m1 V e w')=>h.some hY);rw [hY] at HX;clear hY;rcases hZ:BA Rn Qn its.strip m2 with _|bb
   ·have h4:=qh (λe V w' (h:ItP Rn Qn its m2 V e w')=>h.none hZ)
    rw [hZ] at HX;clear hZ
    go_wp2_with (first
     | (go_at_call 84;refine ha.out.mono ?_;rintro e w5 ⟨rfl,hF⟩;obtain ⟨W6,hv,g6,bW6,sW6⟩:=Ag w5 #[sv un,int i64 fi] 44;have hG:=Ah (Ad hF bW6) hp.out;have hC:=qh hG;have hD:=qh (Ad hs.out (Ad hF bW6));have y0:W6.cell? ⟨wr.heap.size,0,none⟩=some (int i64 kd):=Aa hG 0 rfl;have y8:W6.cell? ⟨w5.heap.size,0,none⟩=some (sv un):=Aa g6 0 rfl;have y9:W6.cell? ⟨w5.heap.size,1,none⟩=some (int i64 fi):=Aa g6 1 rfl;clear g6 bW6 sW6 hG hF z0 z2 z3 c0 c1 c2 c3 c4 c5;obtain ⟨W7,hK,gX7,b67⟩:=B5 (o:=2) hC.out (sv un) (int i64 fi);have gX7:W7.heap[wr.heap.size]?=some (.cells #[int i64 kd,int i64 nn,sv un,int i64 fi,.slice ia its.len ic,.slice ma ms.length mc] 48 (0,0)):=gX7;have b27:Below wr.heap.size wr W7:=hD.out.trans (b67.below (by have:=hD.out.size;have:=(qs.1 hC.out).1;omega) (by have:=hD.out.size;have:=(qs.1 hC.out).1;omega));have hV:=qh hK;have hB:=qh gX7;have hL:=qh b27;clear hK gX7 b67 b27)
     | (refine wpList_store_mid rfl 44 _ _ rfl wr.heap.size 2 #[sv un,int i64 fi] rfl rfl (CO hC.out (by simp)) (by kernel_rfl) (by simp [Value.oneCell']) ?_;rw [hV.out];clear y0 y8 y9;have x5:W7.cell? ⟨wr.heap.size,5,none⟩=some (.slice ma ms.length mc):=Aa hB.out 5 rfl)
     | (go_at_call 102;refine (HB.out W7 hL.out).mono ?_;rintro e w8 hQ;obtain ⟨ma5,mc5,rfl,hc,hM⟩:=hw.out _ _ _ hQ;have HG:=qh hc;clear hc;clear x5 hQ;have hE:=Ah hM hB.out;have h2:=qh hE;have hW:=qh (hL.out.trans (hM.mono hL.out.size));have e4:w8.cell? ⟨wr.heap.size,4,none⟩=some (.slice ia its.len ic):=Aa hE 4 rfl;have e5:w8.cell? ⟨wr.heap.size,5,none⟩=some (.slice ma ms.length mc):=Aa hE 5 rfl;have q8:w8.frozen? ⟨wr.heap.size,5,none⟩=false:=(show FreeB w8 wr.heap.size from ⟨_,_,hE⟩).free 5;obtain ⟨W9,hH⟩:∃W9,w8.setCell ⟨wr.heap.size,5,none⟩ (.slice ma5 ms.length mc5)=W9:=⟨_,rfl⟩;have hR:W9.heap[wr.heap.size]?=some (.cells #[int i64 kd,int i64 nn,sv un,int i64 fi,.slice ia its.len ic,.slice ma5 ms.length mc5] 48 (0,0)):=(by rw [← hH];exact BO hE 5 _);have hz:=qh hR;have hT:Hid (Below wr.heap.size wr W9):=qh (by rw [← hH];exact hW.out.setCell (p:=⟨wr.heap.size,5,none⟩) (qn _) _);have h3:Hid (ButOne wr.heap.size w8 W9):=qh (by rw [← hH];exact ButOne.setCell (p:=⟨wr.heap.size,5,none⟩) _);have h0:=qh hH;clear hH hR hE hM)
     | (go_at_call 83;rw [h0.out];refine (HM.out W9 hT.out).mono ?_;rintro e w10 hN;obtain ⟨rfl,hJ⟩:=h4.out _ _ _ hN;clear e4 e5 q8 hN;have hA:=Ah hJ hz.out;have hd:wr.heap.size<w10.heap.size:=(qs.1 hA).1;have hO:=qh (hT.out.trans (hJ.mono hT.out.size));have y0:=Aa hA 0 rfl;have y1:=Aa hA 1 rfl;have y2:=Aa hA 2 rfl;have y3:=Aa hA 3 rfl;have y4:=Aa hA 4 rfl;have y5:=Aa hA 5 rfl;have q10:w10.frozen? ⟨wr.heap.size,4,none⟩=false:=(show FreeB w10 wr.heap.size from ⟨_,_,hA⟩).free 4;clear hA hJ))
    refine bodyPost_ret (v:=.tuple #[.slice none 0 0,.bool false]) ?_ rfl ?_
    ·simp [results,Tryz.results83,go_sem]
    ·exact Or.inr ⟨by rw [HX.out];simp,rfl,h1.out.trans (Below.mono (show Below wr.heap.size wr (w10.setCell ⟨wr.heap.size,4,none⟩ (.slice none 0 0)) from hO.out.setCell (p:=⟨wr.heap.size,4,none⟩) (qn _) _) ht.out)⟩
   have h4:=qh (λe V w' (h:ItP Rn Qn its m2 V e w')=>h.some hZ);rw [hZ] at HX;clear hZ
   go_wp2_with (first
    | (go_at_call 84;refine ha.out.mono ?_;rintro e w5 ⟨rfl,hF⟩;obtain ⟨W6,hv,g6,bW6,sW6⟩:=Ag w5 #[sv un,int i64 fi] 44;have hG:=Ah (Ad hF bW6) hp.out;have hC:=qh hG;have hD:=qh (Ad hs.out (Ad hF bW6));have y0:W6.cell? ⟨wr.heap.size,0,none⟩=some (int i64 kd):=Aa hG 0 rfl;have y8:W6.cell? ⟨w5.heap.size,0,none⟩=some (sv un):=Aa g6 0 rfl;have y9:W6.cell? ⟨w5.heap.size,1,none⟩=some (int i64 fi):=Aa g6 1 rfl;clear g6 bW6 sW6 hG hF z0 z2 z3 c0 c1 c2 c3 c4 c5;obtain ⟨W7,hK,gX7,b67⟩:=B5 (o:=2) hC.out (sv un) (int i64 fi);have gX7:W7.heap[wr.heap.size]?=some (.cells #[int i64 kd,int i64 nn,sv un,int i64 fi,.slice ia its.len ic,.slice ma ms.length mc] 48 (0,0)):=gX7;have b27:Below wr.heap.size wr W7:=hD.out.trans (b67.below (by have:=hD.out.size;have:=(qs.1 hC.out).1;omega) (by have:=hD.out.size;have:=(qs.1 hC.out).1;omega));have hV:=qh hK;have hB:=qh gX7;have hL:=qh b27;clear hK gX7 b67 b27)
    | (refine wpList_store_mid rfl 44 _ _ rfl wr.heap.size 2 #[sv un,int i64 fi] rfl rfl (CO hC.out (by simp)) (by kernel_rfl) (by simp [Value.oneCell']) ?_;rw [hV.out];clear y0 y8 y9;have x5:W7.cell? ⟨wr.heap.size,5,none⟩=some (.slice ma ms.length mc):=Aa hB.out 5 rfl)
    | (go_at_call 102;refine (HB.out W7 hL.out).mono ?_;rintro e w8 hQ;obtain ⟨ma5,mc5,rfl,hc,hM⟩:=hw.out _ _ _ hQ;have HG:=qh hc;clear hc;clear x5 hQ;have hE:=Ah hM hB.out;have h2:=qh hE;have hW:=qh (hL.out.trans (hM.mono hL.out.size));have e4:w8.cell? ⟨wr.heap.size,4,none⟩=some (.slice ia its.len ic):=Aa hE 4 rfl;have e5:w8.cell? ⟨wr.heap.size,5,none⟩=some (.slice ma ms.length mc):=Aa hE 5 rfl;have q8:w8.frozen? ⟨wr.heap.size,5,none⟩=false:=(show FreeB w8 wr.heap.size from ⟨_,_,hE⟩).free 5;obtain ⟨W9,hH⟩:∃W9,w8.setCell ⟨wr.heap.size,5,none⟩ (.slice ma5 ms.length mc5)=W9:=⟨_,rfl⟩;have hR:W9.heap[wr.heap.size]?=some (.cells #[int i64 kd,int i64 nn,sv un,int i64 fi,.slice ia its.len ic,.slice ma5 ms.length mc5] 48 (0,0)):=(by rw [← hH];exact BO hE 5 _);have hz:=qh hR;have hT:Hid (Below wr.heap.size wr W9):=qh (by rw [← hH];exact hW.out.setCell (p:=⟨wr.heap.size,5,none⟩) (qn _) _);have h3:Hid (ButOne wr.heap.size w8 W9):=qh (by rw [← hH];exact ButOne.setCell (p:=⟨wr.heap.size,5,none⟩) _);have h0:=qh hH;clear hH hR hE hM)
    | (go_at_call 83;rw [h0.out];refine (HM.out W9 hT.out).mono ?_;rintro e w10 hN;obtain ⟨ao,co,rfl,HH,hJ⟩:=h4.out _ _ _ hN;have HV:=qh HH;clear HH;clear e4 e5 q8 hN;have hA:=Ah hJ hz.out;have hd:wr.heap.size<w10.heap.size:=(qs.1 hA).1;have hO:=qh (hT.out.trans (hJ.mono hT.out.size));have y0:=Aa hA 0 rfl;have y1:=Aa hA 1 rfl;have y2:=Aa hA 2 rfl;have y3:=Aa hA 3 rfl;have y4:=Aa hA 4 rfl;have y5:=Aa hA 5 rfl;have q10:w10.frozen? ⟨wr.heap.size,4,none⟩=false:=(show FreeB w10 wr.heap.size from ⟨_,_,hA⟩).free 4;clear hA hJ;obtain ⟨w11,he,hf,hg,hU,hh⟩:=OG w10 wr.heap.size w10.heap.size ao its.len co #[int i64 kd,int i64 nn,sv un,int i64 fi,.slice ao its.len co,.slice ma5 ms.length mc5] rfl hd hO.out (UD _ _ _ _ _ _ rfl rfl);have h5:=qh he;have h6:=qh hf;have hj:=qh hg;have hk:=qh hU;have h7:=qh hh;clear he hf hg hU hh)
    | (at_builtin;rw [h5.out];refine AL rfl _ _ 45 rfl w.heap.size 48 i0 _ 6 88 Tryz.underlying45 I85.out.1 I85.out.2.1 I85.out.2.2.1 I85.out.2.2.2 rfl (by decide) _ i xs rfl (Dy HF.out h6.out) (some ⟨w10.heap.size,0,none⟩) 1 1 [int i64 kd,int i64 nn,sv un,int i64 fi,.slice ao its.len co,.slice ma5 ms.length mc5] rfl rfl (λe=>by cases e) hj.out.1 hj.out.2 (by unfold maxLen;omega) (by omega) (by have:=h7.out;have:=hO.out.size;have:=ht.out;omega) ?_;intro v9 w12 hm hn HJ;have h8:=qh hm;have h9:=qh hn;have HW:=qh HJ;clear hm hn HJ))
   obtain ⟨A',HK⟩:=Mx hS.out.1 Hc.out rfl hW.out (qs.1 h2.out).1 (HG.out.lower (qs.1 hB.out).1) h3.out HV.out hk.out h8.out h9.out HW.out;have HA:=qh (And.intro HK (show BA Rn Qn T.strip ns=(BA Rn Qn r.strip m3).map ((n1++(fi::(a++bb)))++·) by rw [HX.out,if_pos ⟨by trivial,by unfold FO;simp;omega⟩];rfl));clear HK;go_roundw
   case rel=>exact ⟨i+1,A',r,_,_,_,by go_num,by omega,HA⟩
   case measure=>simp [intOf];omega
theorem Je(Rn Qn:List Nm)(v u9:Value)(ia:Option Addr)(ic:Nat)(W:World):Calls Tryz.prog 83 #[.slice ia 0 ic,v,u9] W (ItP Rn Qn .nil [] W):=by
 go_enter Tryz.func83,Tryz.ntmps83;go_wp2_with fail;go_loopw [8,9] (λov iv wr=>iv=int i64 0∧ov=.slice none 0 0∧wr=W) (λ_ _ _=>0)
 case atStart=>exact ⟨rfl,rfl,rfl⟩
 case round =>
  obtain ⟨rfl,rfl,rfl⟩:=hrel;go_wp2_with fail;refine bodyPost_ret (v:=.tuple #[.slice none 0 0,.bool true]) ?_ rfl ?_
  ·simp [results,Tryz.results83,go_sem]
  ·exact Or.inl ⟨[],_,rfl,rfl,none,0,.nil,rfl,rfl,Or.inl rfl,trivial,trivial,λb hb=>by simp [Lt.own,Lt.len,Lt.blocks] at hb,by simp [Lt.own,Lt.len,Lt.blocks],Below.refl _ _⟩
theorem Ng:∀(s:Nat) (Rn Qn:List Nm) (v u9:Value) (T:Lt),Rn.length≤100000→Qn.length≤100000→T.size≤s→∀(ia:Option Addr) (ic:Nat) (ns:List Int) (W:World),StrRow W v Rn→StrRow W u9 Qn→T.len≤100000→(T.len=0∨ia=some ⟨blk ia,off ia,none⟩)→T.At W (blk ia) (off ia)→NsAt W (T.refsL (blk ia) (off ia)) ns→T.small→Calls Tryz.prog 83 #[.slice ia T.len ic,v,u9] W (ItP Rn Qn T ns W):=by
 intro s
 induction s with
 | zero =>
  intro Rn Qn v u9 T hx hy hs ia ic ns W hr hq hl hf hA hN hB
  cases T with
  | cons=>simp [Lt.size] at hs
  | nil =>
   cases ns with
   | nil=>exact Je Rn Qn v u9 ia ic W
   | cons=>exact hN.elim
 | succ s ih =>
  intro Rn Qn v u9 T hx hy hs ia ic ns W hr hq hl hf hA hN hB;by_cases h0:T.len=0
  ·obtain rfl:=Lt.len_zero h0
   cases ns with
   | nil=>exact Je Rn Qn v u9 ia ic W
   | cons=>exact hN.elim
  ·have e:=hf.resolve_left h0
   rw [e];exact LK Rn Qn v u9 T ns (blk ia) (off ia) ic T.len W hr hq hx hy rfl hl (λT' hC=>ih Rn Qn v u9 T' hx hy (by omega)) ⟨rfl,rfl,qn _,World.ownsRow_nil _ _ _ _,⟨rfl,rfl⟩,by simpa using hA,by simpa using hN,List.nodup_nil,λc hc=>(by cases hc),λk hk=>(by cases hk),hB,Below.refl _ _⟩
structure PhT(ps:List Ph)(lo g i:Nat)(W0:World)(A R:List Ph)(n1 n2:List Int)(W:World):Prop where
 strip:A.map Ph.strip++R.map Ph.strip=ps.map Ph.strip
 len:A.length=i
 atA:Bd W g 0 A
 nsA:NsAt W (Aw A) n1
 atR:Bd W g (i*2) R
 nsR:NsAt W (Aw R) n2
 apart:(g::AW A).Nodup
 own:∀b∈AW A,W0.heap.size≤b∧FreeB W b
 gf:lo≤g∧FreeB W g
 old:∀b∈AW R,b<lo
 small:∀p∈R,p.its.len≤100000∧p.its.small
 but:ButOne g W0 W
theorem PT{ps:List Ph}{lo g i:Nat}{W0 wr w5 w6:World}{A r:List Ph}{p:Ph}{n1 n2 m1 m2:List Int}{ao':Option Addr}{co':Nat}
  (h:PhT ps lo g i W0 A (p::r) n1 n2 wr) (k2:NsAt wr (Aw r) m2) (hO:g<W0.heap.size)
  (hB:Below wr.heap.size wr w5) (h6:ClP p.its m1 w5 (.returned (.slice ao' p.its.len co')) w6) :
  ∃A',A'.length=i+1∧PhT ps lo g (i+1) W0 A' r (n1++m1) m2 (w6.setCell ⟨g,i*2+1,none⟩ (.slice ao' p.its.len co')):=by
 obtain ⟨ao,c,its',e,q1,q2,q3,q4,q5,q6,q7⟩:=h6;injection e with e;injection e with e1 e2 e3;subst e1 e3;have hI:=Lt.same_len q1;have b6:Below wr.heap.size wr w6:=hB.trans (q7.mono hB.size);obtain ⟨⟨r0,r1,x1,x2,x3⟩,hr⟩:=h.atR;have hP:=h.but.size;generalize hC:w6.setCell ⟨g,i*2+1,none⟩ (.slice ao' p.its.len co')=Wn
 have kg:∀q v,q≠i*2+1→wr.cell? ⟨g,q,none⟩=some v→Wn.cell? ⟨g,q,none⟩=some v:=λq v h4 hc=>by
  rw [← hC];exact Af (Ac b6 hc) (Az (Or.inr λe=>h4 e.symm))
 have ko:∀b,b≠g→∀q v,w6.cell? ⟨b,q,none⟩=some v→Wn.cell? ⟨b,q,none⟩=some v:=λb hb q v hc=>by
  rw [← hC];exact Af hc (Az (Or.inl λe=>hb e.symm))
 have c1:Wn.cell? ⟨g,i*2+1,none⟩=some (.slice ao' p.its.len co'):=by
  rw [← hC];exact World.cell?_setCell_same _ _ _ (Ac b6 r1)
 have kf:∀b,FreeB w6 b→FreeB Wn b:=λb hb=>by rw [← hC];exact hb.set _ _
 have hF:g∉AW A:=(List.nodup_cons.1 h.apart).1;have hJ:Bd Wn g 0 A:=Dz h.atA (λq v _ hq=>kg q v (by rw [h.len] at hq;omega)) (λb hb q v hc=>ko b (λe=>hF (e▸hb)) q v (Ac b6 hc));have hK:NsAt Wn (Aw A) n1:=h.nsA.kept λx hx v hc=>ko _ (λe=>hF (e▸Bo hx)) _ _ (Ac b6 hc)
 have hE:∀b∈its'.own ao',b≠g:=λb hb=>by have:=(q5 b hb).1;have:=hB.size;omega
 have hG:its'.At Wn (blk ao') (off ao')∧NsAt Wn (its'.refsL (blk ao') (off ao')) m1:=by
  by_cases hz:its'.len=0
  ·have:=Lt.len_zero hz
   subst this
   cases m1 with
   | nil=>exact ⟨trivial,trivial⟩
   | cons=>exact q4.elim
  ·have e0:off ao'=0:=by rw [q2.resolve_left (by omega)];rfl
   have hH:blk ao'∈its'.own ao':=by unfold Lt.own;simp [hz]
   rw [e0];refine ⟨q3.kept (λq v _ hc=>ko _ (hE _ hH) _ _ hc) (λb hb q v hc=>ko _ (hE _ (by unfold Lt.own;simp [hb])) _ _ hc),q4.kept λx hx v hc=>?_⟩;rcases Lt.refsL_mem hx with ⟨e,_⟩|e
   ·exact ko _ (by rw [e];exact hE _ hH) _ _ hc
   ·exact ko _ (hE _ (by unfold Lt.own;simp [e])) _ _ hc
 have hA:∀b∈AW r,b<lo:=λb hb=>h.old b (by unfold AW at *;simp [hb])
 have hL:Bd Wn g (i*2+2) r:=Cz hr (λq v hq hc=>kg q v (by omega) hc) (λb hb q v hc=>ko b (by have:=hA b hb;have:=h.gf.1;omega) q v (Ac b6 hc));have hM:NsAt Wn (Aw r) m2:=k2.kept λx hx v hc=>ko _ (by have:=hA x.b (Bo hx);have:=h.gf.1;omega) _ _ (Ac b6 hc)
 have hN:0+2*A.length=i*2:=by rw [h.len];omega
 have hD:p.its.len=its'.len:=hI.symm;refine ⟨A++[⟨p.name,ao',co',its'⟩],by simp [h.len],?_,by simp [h.len],?_,?_,?_,hM,?_,?_,⟨h.gf.1,kf _ (h.gf.2.below b6)⟩,hA,λq hq=>h.small q (List.mem_cons_of_mem _ hq),?_⟩
 ·rw [← h.strip];simp [Ph.strip,q1]
 ·rw [Ie,hN]
  refine ⟨hJ,⟨kg _ _ (by omega) r0,by unfold Ph.val;rw [← hD];exact c1,?_,by rw [← hD];exact x2,hG.1⟩,trivial⟩;rcases q2 with q2|q2
  ·left;show its'.len=0;omega
  ·right
   have e0:off ao'=0:=by rw [q2];rfl
   show ao'=some ⟨blk ao',off ao',none⟩
   rw [e0];exact q2
 ·rw [F1]
  exact hK.append (by simpa [Aw,Ph.refsL] using hG.2)
 ·rw [Nat.add_mul,Nat.one_mul];exact hL
 ·have:AW (A++[⟨p.name,ao',co',its'⟩])=AW A++its'.own ao':=by unfold AW;simp
  rw [this,← List.cons_append];refine List.nodup_append.2 ⟨h.apart,q6,λa ha b hb e=>?_⟩;have h2:=(q5 b hb).1;have:=hB.size;rcases List.mem_cons.1 ha with rfl|ha
  ·have:=h.gf.2.lt;omega
  ·have:=(h.own a ha).2.lt;omega
 ·intro b hb
  have:AW (A++[⟨p.name,ao',co',its'⟩])=AW A++its'.own ao':=by unfold AW;simp
  rw [this,List.mem_append] at hb;rcases hb with hb|hb
  ·obtain ⟨h1,h2⟩:=h.own b hb
   exact ⟨h1,kf _ (h2.below b6)⟩
  ·obtain ⟨h1,h2⟩:=q5 b hb
   have:=hB.size;exact ⟨by omega,kf _ h2⟩
 ·rw [← hC]
  exact (h.but.trans (ButOne.of_below b6)).trans (ButOne.setCell (p:=⟨g,i*2+1,none⟩) _)
theorem JK{W:World}{b:Nat}:∀{o:Nat} {ds:List Dan} {ks:List Int} {i:Nat} {d:Dan},Bh W b o ds→NsAt W (Al b o ds) ks→ds[i]?=some d→∃n1 n2,W.cell? ⟨b,o+i*6,none⟩=some (sv d.rn)∧W.cell? ⟨b,o+i*6+1,none⟩=some (int i64 n1)∧W.cell? ⟨b,o+i*6+2,none⟩=some (sv d.pn)∧W.cell? ⟨b,o+i*6+3,none⟩=some (int i64 n2)∧W.cell? ⟨b,o+i*6+4,none⟩=some (int i64 d.bar)∧W.cell? ⟨b,o+i*6+5,none⟩=some (.bool d.mirror)
 | _,[],_,_,_,_,_,h=>by simp at h
 | o,d::ds,ks,i,d',⟨⟨h0,h2,h4,h5⟩,hr⟩,hN,h=>by
  match ks,hN with
  | n1::n2::ks,⟨h1,h3,hA⟩ =>
  cases i with
  | zero =>
   simp only [List.getElem?_cons_zero,Option.some.injEq] at h;subst h;exact ⟨n1,n2,by simpa using h0,by simpa using h1,by simpa using h2,by simpa using h3,by simpa using h4,by simpa using h5⟩
  | succ i =>
   simp only [List.getElem?_cons_succ] at h;obtain ⟨a,c,e⟩:=JK hr hA h;refine ⟨a,c,?_⟩;rw [show o+(i+1)*6=o+6+i*6 by omega];exact e
def DanI(Rn Qn:List Nm)(ds:List Dan)(D i:Nat)(W:World):Prop:=∀j d,ds[j]?=some d→W.cell? ⟨D,j*6,none⟩=some (sv d.rn)∧W.cell? ⟨D,j*6+2,none⟩=some (sv d.pn)∧W.cell? ⟨D,j*6+4,none⟩=some (int i64 d.bar)∧W.cell? ⟨D,j*6+5,none⟩=some (.bool d.mirror)∧∃a b,W.cell? ⟨D,j*6+1,none⟩=some (int i64 a)∧W.cell? ⟨D,j*6+3,none⟩=some (int i64 b)∧(j<i→a=Bi Rn d.rn∧b=Bi Qn d.pn)
theorem DanI.kept{Rn Qn:List Nm}{ds:List Dan}{D i:Nat}{W W':World}(h:DanI Rn Qn ds D i W)(hk:∀q v,W.cell? ⟨D,q,none⟩=some v→W'.cell? ⟨D,q,none⟩=some v):DanI Rn Qn ds D i W':=λj d hd=>by
 obtain ⟨h1,h2,h3,h4,a,b,h5,h6,h7⟩:=h j d hd;exact ⟨hk _ _ h1,hk _ _ h2,hk _ _ h3,hk _ _ h4,a,b,hk _ _ h5,hk _ _ h6,h7⟩
theorem DanI.of{Rn Qn:List Nm}{ds:List Dan}{D:Nat}{W:World}{ks:List Int}(h:Bh W D 0 ds)(hN:NsAt W (Al D 0 ds) ks):DanI Rn Qn ds D 0 W:=λj d hd=>by
 obtain ⟨n1,n2,h1,h2,h3,h4,h5,h6⟩:=JK h hN hd;simp only [Nat.zero_add] at h1 h2 h3 h4 h5 h6;exact ⟨h1,h3,h5,h6,n1,n2,h2,h4,λe=>absurd e (Nat.not_lt_zero _)⟩
theorem Bp{W:World}{B o q:Nat}{a b v:Value}(hc:W.cell? ⟨B,q,none⟩=some v)(h:q<o∨o+1<q):(W.setCells B o [a,b]).cell? ⟨B,q,none⟩=some v:=by
 simp only [World.setCells];exact Af (Af hc (Az (Or.inr (by omega)))) (Az (Or.inr (by omega)))
theorem Iq{W:World}{B o:Nat}{a b v:Value}(hc:W.cell? ⟨B,o,none⟩=some v):(W.setCells B o [a,b]).cell? ⟨B,o,none⟩=some a:=by
 simp only [World.setCells];exact Af (World.cell?_setCell_same _ _ _ hc) (Az (Or.inr (by omega)))
theorem Gp{W:World}{B o:Nat}{a b v:Value}(hc:W.cell? ⟨B,o+1,none⟩=some v):(W.setCells B o [a,b]).cell? ⟨B,o+1,none⟩=some b:=by
 simp only [World.setCells];exact World.cell?_setCell_same _ _ _ (Af hc (Az (Or.inr (by omega))))
theorem DanI.step{Rn Qn:List Nm}{ds:List Dan}{D i:Nat}{d:Dan}{W W2:World}(h:DanI Rn Qn ds D i W)(hd:ds[i]?=some d)(hb:∀q v,(W.setCells D (i*6) [sv d.rn,int i64 (Bi Rn d.rn)]).cell? ⟨D,q,none⟩=some v→W2.cell? ⟨D,q,none⟩=some v) :
  DanI Rn Qn ds D (i+1) (W2.setCells D (i*6+2) [sv d.pn,int i64 (Bi Qn d.pn)]):=λj e he=>by
 obtain ⟨h1,h2,h3,h4,a,b,h5,h6,h7⟩:=h j e he;by_cases hj:j=i
 ·subst hj
  rw [hd] at he;cases he;refine ⟨Bp (hb _ _ (Iq h1)) (by omega),Iq (hb _ _ (Bp h2 (by omega))),Bp (hb _ _ (Bp h3 (by omega))) (by omega),Bp (hb _ _ (Bp h4 (by omega))) (by omega),Bi Rn d.rn,Bi Qn d.pn,Bp (hb _ _ (Gp h5)) (by omega),Gp (hb _ _ (Bp h6 (by omega))),λ_=>⟨rfl,rfl⟩⟩
 ·have k:∀q v,q<i*6∨i*6+3<q→W.cell? ⟨D,q,none⟩=some v→(W2.setCells D (i*6+2) [sv d.pn,int i64 (Bi Qn d.pn)]).cell? ⟨D,q,none⟩=some v:=λq v hq hc=>Bp (hb _ _ (Bp hc (by omega))) (by omega)
  exact ⟨k _ _ (by omega) h1,k _ _ (by omega) h2,k _ _ (by omega) h3,k _ _ (by omega) h4,a,b,k _ _ (by omega) h5,k _ _ (by omega) h6,λhA=>h7 (by omega)⟩
theorem DanI.row{Rn Qn:List Nm}{D:Nat}{W:World}:∀{ds:List Dan} {o:Nat},(∀j d,ds[j]?=some d→W.cell? ⟨D,o+j*6,none⟩=some (sv d.rn)∧W.cell? ⟨D,o+j*6+2,none⟩=some (sv d.pn)∧W.cell? ⟨D,o+j*6+4,none⟩=some (int i64 d.bar)∧W.cell? ⟨D,o+j*6+5,none⟩=some (.bool d.mirror)∧W.cell? ⟨D,o+j*6+1,none⟩=some (int i64 (Bi Rn d.rn))∧W.cell? ⟨D,o+j*6+3,none⟩=some (int i64 (Bi Qn d.pn))) →
  Bh W D o ds∧NsAt W (Al D o ds) (ds.flatMap λd=>[Bi Rn d.rn,Bi Qn d.pn])
 | [],o,_=>⟨trivial,trivial⟩
 | d::ds,o,h=>by
  obtain ⟨h1,h2,h3,h4,h5,h6⟩:=h 0 d rfl;simp only [Nat.zero_mul,Nat.add_zero] at h1 h2 h3 h4 h5 h6
  obtain ⟨r1,r2⟩:=DanI.row (ds:=ds) (o:=o+6) (λj e he=>by
   have:=h (j+1) e (by simpa using he);rw [show o+(j+1)*6=o+6+j*6 by omega] at this
   exact this)
  exact ⟨⟨⟨h1,h2,h3,h4⟩,r1⟩,⟨h5,h6,r2⟩⟩
theorem DanI.done{Rn Qn:List Nm}{ds:List Dan}{D:Nat}{W:World}(h:DanI Rn Qn ds D ds.length W):Bh W D 0 ds∧NsAt W (Al D 0 ds) (ds.flatMap λd=>[Bi Rn d.rn,Bi Qn d.pn]) :=
 DanI.row λj d hd=>by
  obtain ⟨h1,h2,h3,h4,a,b,h5,h6,h7⟩:=h j d hd;obtain ⟨rfl,rfl⟩:=h7 (ql.1 hd).1;simp only [Nat.zero_add];exact ⟨h1,h2,h3,h4,h5,h6⟩
theorem GP{Rn Qn:List Nm}:∀{ds:List Dan} {ks:List Int},(∀d∈ds,d.rn∈Rn∧d.pn∈Qn)→ks.length=2*ds.length→DO Rn Qn ds ks=some (ds.flatMap λd=>[Bi Rn d.rn,Bi Qn d.pn])
 | [],[],_,_=>rfl
 | [],_::_,_,h=>by simp at h
 | d::ds,u::v::ks,h,hl=>by
  rw [G9,if_pos (h d (by simp)).1,if_pos (h d (by simp)).2,GP (λe he=>h e (by simp [he])) (by simp at hl;omega)]
  rfl
 | _::_,[],_,h=>by simp at h
 | _::_,[_],_,h=>by simp at h;omega
theorem ER{Rn Qn:List Nm}:∀{ds:List Dan} {ks:List Int} {d:Dan},d∈ds→¬(d.rn∈Rn∧d.pn∈Qn)→ks.length=2*ds.length→DO Rn Qn ds ks=none
 | d::ds,u::v::ks,d',hm,hb,hl=>by
  rw [G9];rcases List.mem_cons.1 hm with rfl|hm
  ·by_cases h1:d'.rn∈Rn
   ·rw [if_pos h1,if_neg (λh2=>hb ⟨h1,h2⟩)]
   ·rw [if_neg h1]
  ·rw [ER hm hb (by simp at hl;omega)]
   by_cases h1:d.rn∈Rn<;>by_cases h2:d.pn∈Qn<;>simp [h1,h2]
 | _::_,[],_,_,_,h=>by simp at h
 | _::_,[_],_,_,_,h=>by simp at h;omega
def zS:Array Value:=#[.string ⟨#[]⟩,int i64 0,int i64 0,int i64 0,int i64 0,int i64 0,.slice none 0 0,.slice none 0 0,.slice none 0 0,.slice none 0 0,.slice none 0 0,.slice none 0 0]
def MS(s:Ls)(ns:List Int)(w:World)(e:Ending)(w':World):Prop :=
 (∃x ks,Bs s.strip ns=0∧s.strip.idx ns=some ks∧Ls.strip x=s.strip∧x.At w'∧NsAt w' x.refs ks∧e=.returned (.tuple #[x.val,int i64 0])∧Below w.heap.size w w') ∨
 (Bs s.strip ns≠0∧e=.returned (.tuple #[.agg zS,int i64 (Bs s.strip ns)])∧Below w.heap.size w w')
noncomputable def AH:Code:=(Tryz.f52.body).getD .skip
noncomputable def OL:Code:=qe 0 AH
noncomputable def OM:Code:=qe 1 AH
noncomputable def ON:Code:=qe 2 AH
noncomputable def OO:Code:=qe 3 AH
noncomputable def OP:Code:=qe 4 AH
noncomputable def OQ:Code:=qe 5 AH
noncomputable def OR:Code:=qe 6 AH
noncomputable def OS:Code:=qe 7 AH
noncomputable def OT:Code:=qe 8 AH
noncomputable def elem52n9:Code:=qe 9 AH
noncomputable def elem52n10:Code:=qe 10 AH
noncomputable def N5:Code:=qe 11 AH
noncomputable def N6:Code:=qe 12 AH
noncomputable def N7:Code:=qe 13 AH
theorem Qq:Ab 1 AH=.seq OM (Ab 2 AH):=rfl
theorem Qr:Ab 2 AH=.seq ON (Ab 3 AH):=rfl
theorem Qs:Ab 3 AH=.seq OO (Ab 4 AH):=rfl
theorem Qt:Ab 4 AH=.seq OP (Ab 5 AH):=rfl
theorem Qu:Ab 5 AH=.seq OQ (Ab 6 AH):=rfl
theorem Qv:Ab 6 AH=.seq OR (Ab 7 AH):=rfl
theorem Qw:Ab 7 AH=.seq OS (Ab 8 AH):=rfl
theorem Qx:Ab 8 AH=.seq OT (Ab 9 AH):=rfl
theorem Qy:Ab 9 AH=.seq elem52n9 (Ab 10 AH):=rfl
theorem NM:Ab 10 AH=.seq elem52n10 (Ab 11 AH):=rfl
theorem NN:Ab 11 AH=.seq N5 (Ab 12 AH):=rfl
theorem NQ:Ab 12 AH=.seq N6 (Ab 13 AH):=rfl
theorem NR:Ab 13 AH=.seq N7 (Ab 14 AH):=rfl
structure Rs(s:Ls)(w V0:World)(rv pv:Value):Prop where
 below:Below w.heap.size w V0
 src:V0.heap[w.heap.size]?=some (.cells s.cells 30 (0,0))
 out:V0.heap[w.heap.size+1]?=some (.cells zS 30 (0,0))
 rr:StrRow V0 rv s.strip.rnames
 rp:StrRow V0 pv s.strip.pnames
theorem Rs.lt{s:Ls}{w V0:World}{rv pv:Value}(h:Rs s w V0 rv pv):w.heap.size+1<V0.heap.size:=(qs.1 h.out).1
theorem FK(x:Ls):x.cells.all (·.oneCell')=true:=by simp [Ls.cells,Value.oneCell']
theorem Lb(W:World)(B o:Nat)(a b:Value):ButOne B W (W.setCells B o [a,b]):=by
 simp only [World.setCells];exact (ButOne.setCell (p:=⟨B,o,none⟩) _).trans (ButOne.setCell (p:=⟨B,o+1,none⟩) _)
theorem FreeB.set2{W:World}{c:Nat}(h:FreeB W c)(B o:Nat)(a b:Value):FreeB (W.setCells B o [a,b]) c:=by
 simp only [World.setCells];exact (h.set _ _).set _ _
theorem JB{W:World}{D o:Nat}{u v:Value}(h1:W.cell? ⟨D,o,none⟩=some u)(h2:W.cell? ⟨D,o+1,none⟩=some v)(hf:FreeB W D):W.there D o 2:=λj hj=>by
 refine ⟨?_,hf.free _⟩;rcases (by omega:j=0∨j=1) with rfl|rfl
 ·rw [Nat.add_zero,h1];rfl
 ·rw [h2];rfl
theorem DY:zS.all (·.oneCell')=true:=by simp [zS,Value.oneCell']
theorem RJ(s:Ls)(ns:List Int)(w V0 W:World)(rv pv:Value)(B:Nat)(x:Ls)(ks:List Int)(hR:Rs s w V0 rv pv)(hb:Below V0.heap.size V0 W)(hB:W.heap[B]?=some (.cells x.cells 30 (0,0)))(h0:Bs s.strip ns=0)(hC:s.strip.idx ns=some ks)(hD:x.strip=s.strip)
  (hx:∀W',ButOne (w.heap.size+1) W W'→x.At W'∧NsAt W' x.refs ks):
  (Ab 14 AH).wp Tryz.prog (bodyPost Tryz.prog Tryz.f52 (MS s ns w)) { tmps:=#[e0,.pointer (some ⟨w.heap.size,0,none⟩),.pointer (some ⟨(w.heap.size+1),0,none⟩),e3,e4,rv,pv,e7,.pointer (some ⟨B,0,none⟩),e9,ea,eb,ec,ed,ee,ef,eg,eh,ei,ej,ek,el,em,en,eo,ep,eq,er,es,et,eu,ev,ew,ex,ey,ez,eA,eB,eC,eD,eE,eF,eG,eH,eI,eJ,eK,eL,eM,eN,eO,eP,eQ,eR,eS,eT,eU,eV,eW,eX,eY,eZ,aa,ab,ac,ae,af,ag,ah,ai,aj,ak,al,am,an,ao,ap,aq,ar,au,av,aw,ax,ay,az,aA,aB,aC,aD,aE,aF,aG,aH,aI,aJ,aK,aL,aM,aN,aO,aP,aQ,aR,aS,aT,aU,aV,aW,aX,aY,aZ,ba,bb,bc,bd,be,bf,bg,bh,bi,bj,bk,bl,bm,bn,bo,bp,bq],defers:=[] } W:=by
 obtain ⟨W1,hE,g1,b1⟩:=AC (cs:=x.cells) (n:=w.heap.size) (hb.block _ hR.lt |>.trans hR.out) (hR.below.trans (hb.mono hR.below.size)) (by omega)
 have hA:ButOne (w.heap.size+1) W W1:=by
  rw [← hE];exact ⟨rfl,rfl,rfl,by simp [World.setRow],λc _ hc=>Fw _ _ _ _ hc⟩
 have HG:=qh g1;have HE:=qh (show MS s ns w (.returned (.tuple #[x.val,int i64 0])) W1 from Or.inl ⟨x,ks,h0,hC,hD,(hx W1 hA).1,(hx W1 hA).2,rfl,b1⟩);have HB:=qh hB;have HO:=qh ((hb.block _ hR.lt).trans hR.out);have hF:=qh hE;clear hR hb hB h0 hC hD hx hE g1 b1 hA
 conv=>arg 2;whnf
 go_wp2_with (first|(refine wpList_load_row rfl 30 _ rfl B rfl 30 x.cells (0,0) _ HB.out Tryz.underlying30 rfl (by kernel_rfl) ?_;simp only [Act.put,qD,qE,qF])|(refine wpList_store_row rfl 30 _ _ rfl (w.heap.size+1) x.cells rfl rfl 30 _ HO.out (by kernel_rfl) rfl (FK x) ?_;rw [hF.out]));refine bodyPost_ret (v:=.tuple #[x.val,int i64 0]) ?_ rfl HE.out;have hX:=HG.out;unfold Ls.val;unfold Ls.cells at hX ⊢;have z0:=Aa hX 0 rfl;have z1:=Aa hX 1 rfl;have z2:=Aa hX 2 rfl;have z3:=Aa hX 3 rfl;have z4:=Aa hX 4 rfl;have z5:=Aa hX 5 rfl;have z6:=Aa hX 6 rfl;have z7:=Aa hX 7 rfl;have z8:=Aa hX 8 rfl;have z9:=Aa hX 9 rfl;have za:=Aa hX 10 rfl;have zb:=Aa hX 11 rfl;clear hX HE HG HB HO hF;simp [results,Tryz.results52,go_sem,z0,z1,z2,z3,z4,z5,z6,z7,z8,z9,za,zb]
theorem RI(s:Ls)(ns k1 k2:List Int)(w V0 W0:World)(rv pv:Value)(B D m dc:Nat)(x:Ls)(n1:List Int)(hR:Rs s w V0 rv pv)(hA:s.At V0)(HE:NsAt V0 (Al (blk s.da) (off s.da) s.dances) k2)(hm:s.dances.length=m)(Hk:m≤256)(HG:s.strip.rnames.length≤100000)(HH:s.strip.pnames.length≤100000)
  (hb:Below V0.heap.size V0 W0) (hB:W0.heap[B]?=some (.cells x.cells 30 (0,0))) (hU:x.cells[11]?=some (.slice (some ⟨D,0,none⟩) m dc)) (HI:B≠D) (HJ:V0.heap.size≤D) (HL:V0.heap.size≤B) (hO:FreeB W0 D)
  (HS:ns=k1++k2) (hW:∀z,DO s.strip.rnames s.strip.pnames s.dances k2=z→Bs s.strip ns=(if z.isSome then 0 else 170)∧s.strip.idx ns=z.map λb=>n1++b)
  (hY:x.strip=s.strip) (hZ:DanI s.strip.rnames s.strip.pnames s.dances D 0 W0)
  (hx:∀W W',ButOne D W0 W→ButOne (w.heap.size+1) W W'→DanI s.strip.rnames s.strip.pnames s.dances D m W'→x.At W'∧NsAt W' x.refs (n1++(s.dances.flatMap λd=>[Bi s.strip.rnames d.rn,Bi s.strip.pnames d.pn]))):
  (Ab 13 AH).wp Tryz.prog (bodyPost Tryz.prog Tryz.f52 (MS s ns w)) { tmps:=#[e0,.pointer (some ⟨w.heap.size,0,none⟩),.pointer (some ⟨(w.heap.size+1),0,none⟩),e3,e4,rv,pv,e7,.pointer (some ⟨B,0,none⟩),e9,eb,ec,ed,ee,ef,eg,eh,ei,ej,ek,el,em,en,eo,ep,eq,er,es,et,eu,ev,ew,ex,ey,ez,eA,eB,eC,eD,eE,eF,eG,eH,eI,eJ,eK,eL,eM,eN,eO,eP,eQ,eR,eS,eT,eU,eV,eW,eX,eY,eZ,aa,ab,ac,ae,af,ag,ah,ai,aj,ak,al,am,an,ao,ap,aq,ar,au,av,aw,ax,ay,az,aA,aB,aC,aD,aE,aF,aG,aH,aI,aJ,aK,aL,aM,aN,aO,aP,aQ,aR,aS,aT,aU,aV,aW,aX,aY,aZ,ba,bb,bc,bd,be,bf,bg,bh,bi,bj,bk,bl,bm,bn,bo,bp,bq,br],defers:=[] } W0:=by
 have hG:=qh hR;have HA:=qh hA;have ho:=qh HE;have HM:=qh hm;have hL:=qh hU;have hH:=qh hW;have hs:=qh hY;have ht:=qh hZ;have HX:=qh hx;have HN:=qh hb;have HT:=qh hB;have HF:=qh hO;have hu:=qh HI;have hp:=qh HJ;have Hl:=qh HL;have y11:V0.cell? ⟨w.heap.size,11,none⟩=some (.slice s.da m s.dc):=by rw [← hm];exact Aa hR.src 11 rfl
 have hv:=qh y11;have HU:=qh HG;have HV:=qh HH;clear hR hA HE hm hU hW hY hZ hx hb hB hO HI HJ HL HS y11 HG HH;rw [NR];refine Ae (λK hK=>?_);have HK:=qh hK;clear hK
 conv=>arg 2;whnf
 go_wp2_with fail;go_loopw [11] (λiv wr=>∃i:Nat,iv=int i64 i∧i≤m∧Hid (DanI s.strip.rnames s.strip.pnames s.dances D i wr∧ButOne D W0 wr∧(∀d∈s.dances.take i,d.rn∈s.strip.rnames∧d.pn∈s.strip.pnames)∧FreeB wr D)) (λiv _=>m+1-(intOf iv).toNat)
 case atStart=>exact ⟨0,rfl,Nat.zero_le _,qh ⟨ht.out,ButOne.refl _ _,by simp,HF.out⟩⟩
 case round =>
  obtain ⟨i,rfl,Hm,hS⟩:=hrel;have ha:Below V0.heap.size V0 wr:=HN.out.trans (hS.out.2.1.below hp.out HN.out.size);have hf:wr.heap[B]?=some (.cells x.cells 30 (0,0)):=hS.out.2.1.blocks HT.out hu.out;have c11:=Aa hf 11 hL.out;by_cases HW:i<m
  ·have hi:(i:Int)<(m:Int):=by omega
   obtain ⟨d,hd⟩:∃d,s.dances[i]?=some d:=⟨_,qg (by rw [HM.out];exact HW)⟩;obtain ⟨n1',n2',e0,e1,e2,e3,e4,e5⟩:=JK HA.out.dances ho.out hd;have ea:=HA.out.dform.resolve_left (λe=>by rw [e] at hd;cases hd);have y11:=hv.out;rw [ea] at y11;obtain ⟨d0,d2,d4,d5,a,b,d1,d3,_⟩:=hS.out.1 i d hd;have CP:=λV (hV:Below V0.heap.size V0 V)=>ED s.strip.rnames rv true d.rn n1' V (hG.out.rr.below hV) HU.out
   have CQ:=λV (hV:Below V0.heap.size V0 V)=>ED s.strip.pnames pv true d.pn n2' V (hG.out.rp.below hV) HV.out
   unfold JI ptN ptB at CP CQ;simp only [if_true] at CP CQ;have hq:FreeB wr D:=hS.out.2.2.2;obtain ⟨f1,hw⟩:∃f,Bi s.strip.rnames d.rn=f:=⟨_,rfl⟩;obtain ⟨f2,hy⟩:∃f,Bi s.strip.pnames d.pn=f:=⟨_,rfl⟩;obtain ⟨b1,h0⟩:∃f,decide (d.rn∈s.strip.rnames)=f:=⟨_,rfl⟩;obtain ⟨b2,h2⟩:∃f,decide (d.pn∈s.strip.pnames)=f:=⟨_,rfl⟩;simp only [hw,h0] at CP;simp only [hy,h2] at CQ;have HY:=qh CP;have HZ:=qh CQ;have hr:=qh hd;have Ha:=qh hw;have Hb:=qh hy;have HO:=qh h0;have HP:=qh h2;have Hc:=qh (And.intro d0 (And.intro d1 (And.intro d2 d3)));have hg:∀V,Below wr.heap.size wr V→V.there D (i*6) 2:=λV hV=>JB (Ac hV d0) (Ac hV d1) (hq.below hV)
   have hj:∀V,Below wr.heap.size wr V→∀V2,Below (V.setCells D (i*6) [sv d.rn,int i64 f1]).heap.size (V.setCells D (i*6) [sv d.rn,int i64 f1]) V2→V2.there D (i*6+2) 2:=λV hV V2 h3=>JB (Ac h3 (Bp (Ac hV d2) (by omega))) (Ac h3 (Bp (Ac hV d3) (by omega))) (((hq.below hV).set2 _ _ _ _).below h3)
   have h4:=qh hg;have h5:=qh hj;have Hd:=qh hq;clear hg hj hq;generalize He:blk s.da=db at *;generalize Hf:off s.da=dof at *;clear CP CQ hw hy h0 h2 He Hf d0 d1 d2 d3 d4 d5 ea e4 e5 hd;go_wp2_with fail;refine wp_region_held (S:=λV=>Below V0.heap.size V0 V∧V.heap[B]?=some (.cells x.cells 30 (0,0))) (by kernel_rfl) ?_;change wpAnyH _ _ _ _ _ _ _ _ wr.drew;have hC:Below V0.heap.size V0 wr.drew∧wr.drew.heap[B]?=some (.cells x.cells 30 (0,0)):=⟨ha.drew,hf⟩;have hk:Below wr.heap.size wr wr.drew:=(Below.refl _ _).drew;generalize wr.drew=Wd at *;refine tk 0 _ (.pointer (some ⟨B,11,none⟩)) rfl (λV hb=>by go_simp) hC ?_
   try simp only [Act.put,qA,qB,qC,qD,qE,qF]
   refine tk 1 _ (.slice (some ⟨D,0,none⟩) m dc) rfl (λV hb=>by have q0:=Aa hb.2 11 hL.out;go_simp) hC ?_
   try simp only [Act.put,qA,qB,qC,qD,qE,qF]
   refine tk 2 _ (int i64 (i:Nat)) rfl (λV hb=>by go_simp) hC ?_
   try simp only [Act.put,qA,qB,qC,qD,qE,qF]
   refine tk 3 _ (.pointer (some ⟨w.heap.size,11,none⟩)) rfl (λV hb=>by go_simp) hC ?_
   try simp only [Act.put,qA,qB,qC,qD,qE,qF]
   refine tk 4 _ (.slice (some ⟨db,dof,none⟩) m s.dc) rfl (λV hb=>by have q0:=Ac hb.1 y11;go_simp) hC ?_
   try simp only [Act.put,qA,qB,qC,qD,qE,qF]
   refine tk 5 _ (int i64 (i:Nat)) rfl (λV hb=>by go_simp) hC ?_
   try simp only [Act.put,qA,qB,qC,qD,qE,qF]
   refine tk 6 _ (.pointer (some ⟨db,dof+i*6,none⟩)) rfl (λV hb=>by have q0:=hi;go_simp) hC ?_
   try simp only [Act.put,qA,qB,qC,qD,qE,qF]
   refine tk 7 _ (.pointer (some ⟨db,dof+i*6,none⟩)) rfl (λV hb=>by go_simp) hC ?_
   try simp only [Act.put,qA,qB,qC,qD,qE,qF]
   refine tk 8 _ (.agg #[sv d.rn,int i64 n1']) rfl (λV hb=>by have q0:=Ac hb.1 e0;have q1:=Ac hb.1 e1;go_simp) hC ?_
   try simp only [Act.put,qA,qB,qC,qD,qE,qF]
   refine tk 9 _ rv rfl (λV hb=>by go_simp) hC ?_
   try simp only [Act.put,qA,qB,qC,qD,qE,qF]
   refine tr 10 _ (by kernel_rfl) rfl λK1 hK=>?_
   go_simp;refine (HY.out _ hC.1).mono ?_;rintro e w5 ⟨rfl,hM⟩;have hF:Below V0.heap.size V0 w5∧w5.heap[B]?=some (.cells x.cells 30 (0,0)):=⟨hC.1.trans (hM.mono hC.1.size),Ah hM hC.2⟩;have hI:Below wr.heap.size wr w5:=Ad hk hM;clear hM hC hk;refine hK.out _ _ hF (λ_=>?_);clear hK K1
   try simp only [Act.put,qA,qB,qC,qD,qE,qF]
   refine tk 11 _ (.tuple #[.agg #[sv d.rn,int i64 f1],.bool b1]) rfl (λV hb=>by go_simp) hF ?_
   try simp only [Act.put,qA,qB,qC,qD,qE,qF]
   refine tk 12 _ (.agg #[sv d.rn,int i64 f1]) rfl (λV hb=>by go_simp) hF ?_
   try simp only [Act.put,qA,qB,qC,qD,qE,qF]
   refine tk 13 _ (.bool b1) rfl (λV hb=>by go_simp) hF ?_
   try simp only [Act.put,qA,qB,qC,qD,qE,qF]
   refine tk 14 _ (.pointer (some ⟨D,i*6,none⟩)) rfl (λV hb=>by have q0:=hi;go_simp) hF ?_
   try simp only [Act.put,qA,qB,qC,qD,qE,qF]
   refine tk 15 _ (.pointer (some ⟨D,i*6,none⟩)) rfl (λV hb=>by go_simp) hF ?_
   try simp only [Act.put,qA,qB,qC,qD,qE,qF]
   refine tr 16 _ (by kernel_rfl) rfl λK1 hK=>?_
   obtain ⟨W6,hJ⟩:∃W6,w5.setCells D (i*6) [sv d.rn,int i64 f1]=W6:=⟨_,rfl⟩;have hN:ButOne D wr W6:=by rw [← hJ];exact (ButOne.of_below hI).trans (Lb _ _ _ _ _)
   have hE:Below V0.heap.size V0 W6∧W6.heap[B]?=some (.cells x.cells 30 (0,0)):=⟨ha.trans (hN.below hp.out ha.size),hN.blocks hf hu.out⟩;refine wp_store_mid 44 _ _ rfl D (i*6) #[sv d.rn,int i64 f1] rfl rfl (h4.out _ hI) (by kernel_rfl) (by simp [Value.oneCell']) ?_;rw [show (#[sv d.rn,int i64 f1]:Array Value).toList=[sv d.rn,int i64 f1] from rfl,hJ];refine hK.out _ _ hE (λ_=>?_);clear hK K1
   try simp only [Act.put,qA,qB,qC,qD,qE,qF]
   refine tk 17 _ (.bool b1) rfl (λV hb=>by go_simp) hE ?_
   try simp only [Act.put,qA,qB,qC,qD,qE,qF]
   refine wpAnyH_done (by kernel_rfl) ?_ _;rcases AY b1 with rfl|rfl
   ·skip
    have hD:Hid (Bs s.strip ns=170):=qh (by
     have:=(hH.out _ (ER (List.mem_of_getElem? hr.out) (λhh=>absurd hh.1 (of_decide_eq_false HO.out)) (by rw [ho.out.len,DF];omega))).1
     simpa using this)
    clear hH HX;have hP:W6.heap[w.heap.size+1]?=some (.cells zS 30 (0,0)):=(hE.1.block _ hG.out.lt).trans hG.out.out;obtain ⟨W9,hl,g9,b9⟩:=AC (cs:=zS) (n:=w.heap.size) hP (hG.out.below.trans (hE.1.mono hG.out.below.size)) (by omega);have h6:=qh hP;have h7:=qh hl;have h8:=qh g9;have h9:=qh b9;clear hP hl g9 b9 hE
    go_wp2_with (refine wpList_store_row rfl 30 _ _ rfl (w.heap.size+1) zS rfl rfl 30 _ h6.out (by kernel_rfl) rfl DY ?_;rw [h7.out]);refine bodyPost_ret (v:=.tuple #[.agg zS,int i64 170]) ?_ rfl (Or.inr ⟨by rw [hD.out];decide,by rw [hD.out],h9.out⟩);have hX:=h8.out;unfold zS at hX ⊢;have z0:=Aa hX 0 rfl;have z1:=Aa hX 1 rfl;have z2:=Aa hX 2 rfl;have z3:=Aa hX 3 rfl;have z4:=Aa hX 4 rfl;have z5:=Aa hX 5 rfl;have z6:=Aa hX 6 rfl;have z7:=Aa hX 7 rfl;have z8:=Aa hX 8 rfl;have z9:=Aa hX 9 rfl;have za:=Aa hX 10 rfl;have zb:=Aa hX 11 rfl;simp [results,Tryz.results52,go_sem,z0,z1,z2,z3,z4,z5,z6,z7,z8,z9,za,zb]
   have HB:=qh hI;have HC:=qh hJ;have Hg:=qh hN;have hQ:=hE.1;have hT:=hE.2;have c11':=Aa hT 11 hL.out;clear hI hJ hN hE c11 hF;go_wp2_with fail;refine wp_region_held (S:=λV=>Below V0.heap.size V0 V∧V.heap[B]?=some (.cells x.cells 30 (0,0))) (by kernel_rfl) ?_;change wpAnyH _ _ _ _ _ _ _ _ W6.drew;have hC:Below V0.heap.size V0 W6.drew∧W6.drew.heap[B]?=some (.cells x.cells 30 (0,0)):=⟨hQ.drew,hT⟩;have hk:Below W6.heap.size W6 W6.drew:=(Below.refl _ _).drew;generalize W6.drew=Wd at *;refine tk 0 _ (.pointer (some ⟨B,11,none⟩)) rfl (λV hb=>by go_simp) hC ?_
   try simp only [Act.put,qA,qB,qC,qD,qE,qF]
   refine tk 1 _ (.slice (some ⟨D,0,none⟩) m dc) rfl (λV hb=>by have q0:=Aa hb.2 11 hL.out;go_simp) hC ?_
   try simp only [Act.put,qA,qB,qC,qD,qE,qF]
   refine tk 2 _ (int i64 (i:Nat)) rfl (λV hb=>by go_simp) hC ?_
   try simp only [Act.put,qA,qB,qC,qD,qE,qF]
   refine tk 3 _ (.pointer (some ⟨w.heap.size,11,none⟩)) rfl (λV hb=>by go_simp) hC ?_
   try simp only [Act.put,qA,qB,qC,qD,qE,qF]
   refine tk 4 _ (.slice (some ⟨db,dof,none⟩) m s.dc) rfl (λV hb=>by have q0:=Ac hb.1 y11;go_simp) hC ?_
   try simp only [Act.put,qA,qB,qC,qD,qE,qF]
   refine tk 5 _ (int i64 (i:Nat)) rfl (λV hb=>by go_simp) hC ?_
   try simp only [Act.put,qA,qB,qC,qD,qE,qF]
   refine tk 6 _ (.pointer (some ⟨db,dof+i*6,none⟩)) rfl (λV hb=>by have q0:=hi;go_simp) hC ?_
   try simp only [Act.put,qA,qB,qC,qD,qE,qF]
   refine tk 7 _ (.pointer (some ⟨db,dof+i*6+2,none⟩)) rfl (λV hb=>by go_simp) hC ?_
   try simp only [Act.put,qA,qB,qC,qD,qE,qF]
   refine tk 8 _ (.agg #[sv d.pn,int i64 n2']) rfl (λV hb=>by have q0:=Ac hb.1 e2;have q1:=Ac hb.1 e3;go_simp) hC ?_
   try simp only [Act.put,qA,qB,qC,qD,qE,qF]
   refine tk 9 _ pv rfl (λV hb=>by go_simp) hC ?_
   try simp only [Act.put,qA,qB,qC,qD,qE,qF]
   refine tr 10 _ (by kernel_rfl) rfl λK1 hK=>?_
   go_simp;refine (HZ.out _ hC.1).mono ?_;rintro e w7 ⟨rfl,hM⟩;have hF:Below V0.heap.size V0 w7∧w7.heap[B]?=some (.cells x.cells 30 (0,0)):=⟨hC.1.trans (hM.mono hC.1.size),Ah hM hC.2⟩;have hI:Below W6.heap.size W6 w7:=Ad hk hM;clear hM hC hk;refine hK.out _ _ hF (λ_=>?_);clear hK K1
   try simp only [Act.put,qA,qB,qC,qD,qE,qF]
   refine tk 11 _ (.tuple #[.agg #[sv d.pn,int i64 f2],.bool b2]) rfl (λV hb=>by go_simp) hF ?_
   try simp only [Act.put,qA,qB,qC,qD,qE,qF]
   refine tk 12 _ (.agg #[sv d.pn,int i64 f2]) rfl (λV hb=>by go_simp) hF ?_
   try simp only [Act.put,qA,qB,qC,qD,qE,qF]
   refine tk 13 _ (.bool b2) rfl (λV hb=>by go_simp) hF ?_
   try simp only [Act.put,qA,qB,qC,qD,qE,qF]
   refine tk 14 _ (.pointer (some ⟨D,i*6,none⟩)) rfl (λV hb=>by have q0:=hi;go_simp) hF ?_
   try simp only [Act.put,qA,qB,qC,qD,qE,qF]
   refine tk 15 _ (.pointer (some ⟨D,i*6+2,none⟩)) rfl (λV hb=>by go_simp) hF ?_
   try simp only [Act.put,qA,qB,qC,qD,qE,qF]
   refine tr 16 _ (by kernel_rfl) rfl λK1 hK=>?_
   obtain ⟨W8,hJ⟩:∃W6,w7.setCells D (i*6+2) [sv d.pn,int i64 f2]=W6:=⟨_,rfl⟩;have hN:ButOne D W6 W8:=by rw [← hJ];exact (ButOne.of_below hI).trans (Lb _ _ _ _ _)
   have hE:Below V0.heap.size V0 W8∧W8.heap[B]?=some (.cells x.cells 30 (0,0)):=⟨hQ.trans (hN.below hp.out hQ.size),hN.blocks hT hu.out⟩;refine wp_store_mid 44 _ _ rfl D (i*6+2) #[sv d.pn,int i64 f2] rfl rfl (h5.out _ HB.out _ (by rw [HC.out];exact hI)) (by kernel_rfl) (by simp [Value.oneCell']) ?_;rw [show (#[sv d.pn,int i64 f2]:Array Value).toList=[sv d.pn,int i64 f2] from rfl,hJ];refine hK.out _ _ hE (λ_=>?_);clear hK K1
   try simp only [Act.put,qA,qB,qC,qD,qE,qF]
   refine tk 17 _ (.bool b2) rfl (λV hb=>by go_simp) hE ?_
   try simp only [Act.put,qA,qB,qC,qD,qE,qF]
   refine wpAnyH_done (by kernel_rfl) ?_ _;rcases AY b2 with rfl|rfl
   ·skip
    have hD:Hid (Bs s.strip ns=170):=qh (by
     have:=(hH.out _ (ER (List.mem_of_getElem? hr.out) (λhh=>absurd hh.2 (of_decide_eq_false HP.out)) (by rw [ho.out.len,DF];omega))).1
     simpa using this)
    clear hH HX;have hP:W8.heap[w.heap.size+1]?=some (.cells zS 30 (0,0)):=(hE.1.block _ hG.out.lt).trans hG.out.out;obtain ⟨W9,hl,g9,b9⟩:=AC (cs:=zS) (n:=w.heap.size) hP (hG.out.below.trans (hE.1.mono hG.out.below.size)) (by omega);have h6:=qh hP;have h7:=qh hl;have h8:=qh g9;have h9:=qh b9;clear hP hl g9 b9 hE
    go_wp2_with (refine wpList_store_row rfl 30 _ _ rfl (w.heap.size+1) zS rfl rfl 30 _ h6.out (by kernel_rfl) rfl DY ?_;rw [h7.out]);refine bodyPost_ret (v:=.tuple #[.agg zS,int i64 170]) ?_ rfl (Or.inr ⟨by rw [hD.out];decide,by rw [hD.out],h9.out⟩);have hX:=h8.out;unfold zS at hX ⊢;have z0:=Aa hX 0 rfl;have z1:=Aa hX 1 rfl;have z2:=Aa hX 2 rfl;have z3:=Aa hX 3 rfl;have z4:=Aa hX 4 rfl;have z5:=Aa hX 5 rfl;have z6:=Aa hX 6 rfl;have z7:=Aa hX 7 rfl;have z8:=Aa hX 8 rfl;have z9:=Aa hX 9 rfl;have za:=Aa hX 10 rfl;have zb:=Aa hX 11 rfl;simp [results,Tryz.results52,go_sem,z0,z1,z2,z3,z4,z5,z6,z7,z8,z9,za,zb]
   have HD:Hid (DanI s.strip.rnames s.strip.pnames s.dances D (i+1) W8∧ButOne D W0 W8∧(∀d∈s.dances.take (i+1),d.rn∈s.strip.rnames∧d.pn∈s.strip.pnames)∧FreeB W8 D):=qh (by
    have Hh:DanI s.strip.rnames s.strip.pnames s.dances D i w5:=hS.out.1.kept λq v hc=>Ac HB.out hc
    have HQ:=DanI.step (W2:=w7) Hh hr.out (by rw [Ha.out,HC.out];exact λq v hc=>Ac hI hc);rw [Hb.out,hJ] at HQ;refine ⟨HQ,(hS.out.2.1.trans Hg.out).trans hN,?_,?_⟩
    ·intro e he
     rw [List.take_add_one,hr.out] at he;rcases List.mem_append.1 he with he|he
     ·exact hS.out.2.2.1 e he
     ·simp only [Option.toList_some,List.mem_singleton] at he
      subst he;exact ⟨of_decide_eq_true HO.out,of_decide_eq_true HP.out⟩
    ·rw [← hJ]
     refine FreeB.set2 (FreeB.below ?_ hI) _ _ _ _;rw [← HC.out]
     exact (Hd.out.below HB.out).set2 _ _ _ _)
   clear hI hJ hN hE c11';go_wp2_with fail;go_roundw
   case rel=>exact ⟨i+1,by go_num,by omega,HD⟩
   case measure=>simp [intOf];omega
  ·obtain rfl:i=m:=by omega
   have hz:¬(i:Int)<(i:Int):=by omega
   have hn:∀d∈s.dances,d.rn∈s.strip.rnames∧d.pn∈s.strip.pnames:=by
    have:=hS.out.2.2.1;rw [← HM.out,List.take_length] at this;exact this
   have HR:=qh (hH.out _ (GP hn (by rw [ho.out.len,DF];omega)));have Hi:=qh ha;have Hj:=qh hf;clear hn ha hf;go_wp2_with fail;refine HK.out _ _ ?_;exact RJ s ns w V0 wr rv pv B x _ hG.out Hi.out Hj.out (by simpa using HR.out.1) HR.out.2 hs.out (λW' h1=>HX.out wr W' hS.out.2.1 h1 (hS.out.1.kept λq v hc=>h1.cellk (by have:=hp.out;have:=hG.out.lt;omega) hc))
theorem I7(w:World)(B:Nat)(e:TypeId)(size:Nat)(hB:B≤w.heap.size):(w.alloc (.cells #[] e)).ownsRow B e size (.slice (some ⟨w.heap.size,0,none⟩) 0 0) 0 [] :=
 ⟨by simp,Or.inr ⟨w.heap.size,0,#[],rfl,hB,heap_alloc_new w _,qn _,Nat.zero_le _,by simp,by simp⟩⟩
theorem TG(s:Sc)(ns:List Int)(h1:s.lims=true)(h2:s.named=true)(h3:s.apart=true):Bs s ns=if (s.idx ns).isSome then 0 else 170:=by
 unfold Bs;simp [h1,h2,h3]
theorem Tw(A B:Nat)(x2 x5 x6:Value)(cs xs:Array Value)(ra:Option Addr)(n rc:Nat)(news:List Value)(W:World)(hA:W.heap[A]?=some (.cells cs 30 (0,0)))(hB:W.heap[B]?=some (.cells xs 30 (0,0)))(h6:cs[10]?=some (.slice ra n rc))(hJ:10<xs.size)(hl:news.length=n*2)(hn:n≤100000)(hL:ra=none→n=0)
  (hE:∀ad,ra=some ad→∀j u,news[j]?=some u→W.cell? (ad.add j)=some u) (h1:∀u∈news,u.oneCell'=true) (K:Act→World→Prop)
  (hK:∀(g c:Nat) (W':World),W'.ownsRow W.heap.size 51 2 (.slice (some ⟨g,0,none⟩) n c) n news→W.heap.size≤g→ButOne B W W'→W'.heap[B]?=some (.cells (xs.setIfInBounds 10 (.slice (some ⟨g,0,none⟩) n c)) 30 (0,0))→∀(f0 f3 f4 f7 f9 br bs bt bu bv bw bx bz bA bB bC bD bE bF bG bH bI bJ bK bL bM bN bO bP bQ bR bS bT bU bV bW bX bY bZ ca cb cc cd ce cf cg ch ci cj ck cm cn co cp cq cr ct cu cv cw cx cy cz cA cB cC cD cE cF cG cH cI cJ cK cL cM cN cO cP cQ cR cS cT cU cV cW cX cY cZ da db dc dd de df dg dh di dj dk dl dm dn dp dq dr ds dt du dv dw dx dy dz dA dB dC dD dE dF dG dH dI:Value),K { tmps:=#[f0,.pointer (some ⟨A,0,none⟩),x2,f3,f4,x5,x6,f7,.pointer (some ⟨B,0,none⟩),f9,br,bs,bt,bu,bv,bw,bx,bz,bA,bB,bC,bD,bE,bF,bG,bH,bI,bJ,bK,bL,bM,bN,bO,bP,bQ,bR,bS,bT,bU,bV,bW,bX,bY,bZ,ca,cb,cc,cd,ce,cf,cg,ch,ci,cj,ck,cm,cn,co,cp,cq,cr,ct,cu,cv,cw,cx,cy,cz,cA,cB,cC,cD,cE,cF,cG,cH,cI,cJ,cK,cL,cM,cN,cO,cP,cQ,cR,cS,cT,cU,cV,cW,cX,cY,cZ,da,db,dc,dd,de,df,dg,dh,di,dj,dk,dl,dm,dn,dp,dq,dr,ds,dt,du,dv,dw,dx,dy,dz,dA,dB,dC,dD,dE,dF,dG,dH,dI],defers:=[] } W'):
  elem52n9.wp Tryz.prog (Exit.then K (λ_ _ _=>False)) { tmps:=#[e0,.pointer (some ⟨A,0,none⟩),x2,e3,e4,x5,x6,e7,.pointer (some ⟨B,0,none⟩),e9,ea,eb,ec,ed,ee,ef,eg,eh,ei,ej,ek,el,em,en,eo,ep,eq,er,es,et,eu,ev,ew,ex,ey,ez,eA,eB,eC,eD,eE,eF,eG,eH,eI,eJ,eK,eL,eM,eN,eO,eP,eQ,eR,eS,eT,eU,eV,eW,eX,eY,eZ,aa,ab,ac,ae,af,ag,ah,ai,aj,ak,al,am,an,ao,ap,aq,ar,au,av,aw,ax,ay,az,aA,aB,aC,aD,aE,aF,aG,aH,aI,aJ,aK,aL,aM,aN,aO,aP,aQ,aR,aS,aT,aU,aV,aW,aX,aY,aZ,ba,bb,bc,bd,be,bf,bg,bh,bi,bj,bk,bl,bm,bn,bo,bp,bq],defers:=[] } W:=by
 obtain ⟨i0,hF,hM,hN,hO⟩:=info_parts Pj;have I85:=qh (And.intro hF (And.intro hM (And.intro hN hO)));have hb:B<W.heap.size:=(qs.1 hB).1;obtain ⟨W2,hP,bW2,sW2⟩:∃W2,W.alloc (.cells #[] 51)=W2∧Below W.heap.size W W2∧W2.heap.size=W.heap.size+1:=⟨_,rfl,(Below.refl _ _).alloc (qn _) _,by simp⟩;have c6:W2.cell? ⟨A,10,none⟩=some (.slice ra n rc):=Aa (Ah bW2 hA) 10 h6;have hG:W2.ownsRow W.heap.size 51 2 (.slice (some ⟨W.heap.size,0,none⟩) 0 0) 0 []:=by rw [← hP];exact I7 W _ 51 2 (qn _)
 have hC:∀ad,ra=some ad→∀j u,news[j]?=some u→W2.cell? (ad.add j)=some u:=λad ha j u hj=>Ac bW2 (hE ad ha j u hj)
 have hQ:∀v5 W5,W5.ownsRow W.heap.size 51 2 v5 (0+n) ([]++news)→W2.grownBy W5 (some W.heap.size)→(v5.ownBlock=some W.heap.size∨v5.ownBlock=some W2.heap.size)→∃g c,v5=.slice (some ⟨g,0,none⟩) n c∧Hid (∀(f0 f3 f4 f7 f9 br bs bt bu bv bw bx bz bA bB bC bD bE bF bG bH bI bJ bK bL bM bN bO bP bQ bR bS bT bU bV bW bX bY bZ ca cb cc cd ce cf cg ch ci cj ck cm cn co cp cq cr ct cu cv cw cx cy cz cA cB cC cD cE cF cG cH cI cJ cK cL cM cN cO cP cQ cR cS cT cU cV cW cX cY cZ da db dc dd de df dg dh di dj dk dl dm dn dp dq dr ds dt du dv dw dx dy dz dA dB dC dD dE dF dG dH dI:Value),K { tmps:=#[f0,.pointer (some ⟨A,0,none⟩),x2,f3,f4,x5,x6,f7,.pointer (some ⟨B,0,none⟩),f9,br,bs,bt,bu,bv,bw,bx,bz,bA,bB,bC,bD,bE,bF,bG,bH,bI,bJ,bK,bL,bM,bN,bO,bP,bQ,bR,bS,bT,bU,bV,bW,bX,bY,bZ,ca,cb,cc,cd,ce,cf,cg,ch,ci,cj,ck,cm,cn,co,cp,cq,cr,ct,cu,cv,cw,cx,cy,cz,cA,cB,cC,cD,cE,cF,cG,cH,cI,cJ,cK,cL,cM,cN,cO,cP,cQ,cR,cS,cT,cU,cV,cW,cX,cY,cZ,da,db,dc,dd,de,df,dg,dh,di,dj,dk,dl,dm,dn,dp,dq,dr,ds,dt,du,dv,dw,dx,dy,dz,dA,dB,dC,dD,dE,dF,dG,dH,dI],defers:=[] } (W5.setCell ⟨B,10,none⟩ (.slice (some ⟨g,0,none⟩) n c)))∧W5.heap[B]?=some (.cells xs 30 (0,0)):=λv5 W5 ho hg ha=>by
  have hR:W5.ownsRow W.heap.size 51 2 v5 n news:=by simpa using ho
  have hS:Below W.heap.size W W5:=bW2.grown hg (by omega) (λk hk=>by cases hk;omega);have hD:=Ah hS hB;rcases hR.2 with ⟨e,_⟩|⟨g,cap,cur,e,hH,hW,hr⟩
  ·rw [e] at ha;rcases ha with ha|ha<;>cases ha
  ·subst e
   have hX:g≠B:=by have:=hH;omega
   refine ⟨g,cap,rfl,qh (hK g cap _ ⟨hR.1,Or.inr ⟨_,_,cur,rfl,hH,by rw [Below.heap_setCell _ _ _ _ hX];exact hW,hr⟩⟩ hH ((ButOne.of_below hS).trans (ButOne.setCell (p:=⟨B,10,none⟩) _)) (BO hD 10 _)),hD⟩
 have HO:=qh hG;have HS:=qh hC;have HL:=qh hl;have hY:=qh hL;have H1:=qh h1;have HA:=qh hQ;have hc:=qh hP;have hI:=qh sW2;have HX6:=qh hJ;clear hF hM hN hO hK hA hB h6 hl hL hE h1 bW2 sW2 hG hC hQ hJ;dsimp only;unfold elem52n9 AH
 conv=>arg 2;whnf
 go_wp2_with (at_builtin;refine AL rfl _ _ 27 rfl W.heap.size 51 i0 _ 2 40 Tryz.underlying27 I85.out.1 I85.out.2.1 I85.out.2.2.1 I85.out.2.2.2 rfl (by decide) _ 0 [] rfl HO.out ra n rc news rfl HL.out hY.out HS.out H1.out (by unfold maxLen;omega) (by omega) (by rw [hI.out];omega) ?_;intro v5 W5 hT hU hV;obtain ⟨g,c,rfl,hZ,hD⟩:=HA.out v5 W5 hT hU hV;have q6:W5.cell? ⟨B,10,none⟩=some (xs[10]'HX6.out):=Aa hD 10 (Array.getElem?_eq_getElem HX6.out);have z6:W5.frozen? ⟨B,10,none⟩=false:=(show FreeB W5 B from ⟨_,_,hD⟩).free _;clear hD;clear hT hU hV c6);exact hZ.out _ _ _ _ _ _ _ _ _ _ _ _ _ _ _ _ _ _ _ _ _ _ _ _ _ _ _ _ _ _ _ _ _ _ _ _ _ _ _ _ _ _ _ _ _ _ _ _ _ _ _ _ _ _ _ _ _ _ _ _ _ _ _ _ _ _ _ _ _ _ _ _ _ _ _ _ _ _ _ _ _ _ _ _ _ _ _ _ _ _ _ _ _ _ _ _ _ _ _ _ _ _ _ _ _ _ _ _ _ _ _ _ _ _ _ _ _ _ _ _ _ _ _
theorem RG(A B:Nat)(x2 x5 x6:Value)(cs xs:Array Value)(ra:Option Addr)(n rc:Nat)(news:List Value)(W:World)(hA:W.heap[A]?=some (.cells cs 30 (0,0)))(hB:W.heap[B]?=some (.cells xs 30 (0,0)))(h6:cs[11]?=some (.slice ra n rc))(hJ:11<xs.size)(hl:news.length=n*6)(hn:n≤100000)(hL:ra=none→n=0)
  (hE:∀ad,ra=some ad→∀j u,news[j]?=some u→W.cell? (ad.add j)=some u) (h1:∀u∈news,u.oneCell'=true) (K:Act→World→Prop)
  (hK:∀(g c:Nat) (W':World),W'.ownsRow W.heap.size 53 6 (.slice (some ⟨g,0,none⟩) n c) n news→W.heap.size≤g→ButOne B W W'→W'.heap[B]?=some (.cells (xs.setIfInBounds 11 (.slice (some ⟨g,0,none⟩) n c)) 30 (0,0))→∀(f0 f3 f4 f7 f9 br bs bt bu bv bw bx bz bA bB bC bD bE bF bG bH bI bJ bK bL bM bN bO bP bQ bR bS bT bU bV bW bX bY bZ ca cb cc cd ce cf cg ch ci cj ck cm cn co cp cq cr ct cu cv cw cx cy cz cA cB cC cD cE cF cG cH cI cJ cK cL cM cN cO cP cQ cR cS cT cU cV cW cX cY cZ da db dc dd de df dg dh di dj dk dl dm dn dp dq dr ds dt du dv dw dx dy dz dA dB dC dD dE dF dG dH dI:Value),K { tmps:=#[f0,.pointer (some ⟨A,0,none⟩),x2,f3,f4,x5,x6,f7,.pointer (some ⟨B,0,none⟩),f9,br,bs,bt,bu,bv,bw,bx,bz,bA,bB,bC,bD,bE,bF,bG,bH,bI,bJ,bK,bL,bM,bN,bO,bP,bQ,bR,bS,bT,bU,bV,bW,bX,bY,bZ,ca,cb,cc,cd,ce,cf,cg,ch,ci,cj,ck,cm,cn,co,cp,cq,cr,ct,cu,cv,cw,cx,cy,cz,cA,cB,cC,cD,cE,cF,cG,cH,cI,cJ,cK,cL,cM,cN,cO,cP,cQ,cR,cS,cT,cU,cV,cW,cX,cY,cZ,da,db,dc,dd,de,df,dg,dh,di,dj,dk,dl,dm,dn,dp,dq,dr,ds,dt,du,dv,dw,dx,dy,dz,dA,dB,dC,dD,dE,dF,dG,dH,dI],defers:=[] } W'):
  elem52n10.wp Tryz.prog (Exit.then K (λ_ _ _=>False)) { tmps:=#[e0,.pointer (some ⟨A,0,none⟩),x2,e3,e4,x5,x6,e7,.pointer (some ⟨B,0,none⟩),e9,ea,eb,ec,ed,ee,ef,eg,eh,ei,ej,ek,el,em,en,eo,ep,eq,er,es,et,eu,ev,ew,ex,ey,ez,eA,eB,eC,eD,eE,eF,eG,eH,eI,eJ,eK,eL,eM,eN,eO,eP,eQ,eR,eS,eT,eU,eV,eW,eX,eY,eZ,aa,ab,ac,ae,af,ag,ah,ai,aj,ak,al,am,an,ao,ap,aq,ar,au,av,aw,ax,ay,az,aA,aB,aC,aD,aE,aF,aG,aH,aI,aJ,aK,aL,aM,aN,aO,aP,aQ,aR,aS,aT,aU,aV,aW,aX,aY,aZ,ba,bb,bc,bd,be,bf,bg,bh,bi,bj,bk,bl,bm,bn,bo,bp,bq],defers:=[] } W:=by
 obtain ⟨i0,hF,hM,hN,hO⟩:=info_parts Pk;have I85:=qh (And.intro hF (And.intro hM (And.intro hN hO)));have hb:B<W.heap.size:=(qs.1 hB).1;obtain ⟨W2,hP,bW2,sW2⟩:∃W2,W.alloc (.cells #[] 53)=W2∧Below W.heap.size W W2∧W2.heap.size=W.heap.size+1:=⟨_,rfl,(Below.refl _ _).alloc (qn _) _,by simp⟩;have c6:W2.cell? ⟨A,11,none⟩=some (.slice ra n rc):=Aa (Ah bW2 hA) 11 h6;have hG:W2.ownsRow W.heap.size 53 6 (.slice (some ⟨W.heap.size,0,none⟩) 0 0) 0 []:=by rw [← hP];exact I7 W _ 53 6 (qn _)
 have hC:∀ad,ra=some ad→∀j u,news[j]?=some u→W2.cell? (ad.add j)=some u:=λad ha j u hj=>Ac bW2 (hE ad ha j u hj)
 have hQ:∀v5 W5,W5.ownsRow W.heap.size 53 6 v5 (0+n) ([]++news)→W2.grownBy W5 (some W.heap.size)→(v5.ownBlock=some W.heap.size∨v5.ownBlock=some W2.heap.size)→∃g c,v5=.slice (some ⟨g,0,none⟩) n c∧Hid (∀(f0 f3 f4 f7 f9 br bs bt bu bv bw bx bz bA bB bC bD bE bF bG bH bI bJ bK bL bM bN bO bP bQ bR bS bT bU bV bW bX bY bZ ca cb cc cd ce cf cg ch ci cj ck cm cn co cp cq cr ct cu cv cw cx cy cz cA cB cC cD cE cF cG cH cI cJ cK cL cM cN cO cP cQ cR cS cT cU cV cW cX cY cZ da db dc dd de df dg dh di dj dk dl dm dn dp dq dr ds dt du dv dw dx dy dz dA dB dC dD dE dF dG dH dI:Value),K { tmps:=#[f0,.pointer (some ⟨A,0,none⟩),x2,f3,f4,x5,x6,f7,.pointer (some ⟨B,0,none⟩),f9,br,bs,bt,bu,bv,bw,bx,bz,bA,bB,bC,bD,bE,bF,bG,bH,bI,bJ,bK,bL,bM,bN,bO,bP,bQ,bR,bS,bT,bU,bV,bW,bX,bY,bZ,ca,cb,cc,cd,ce,cf,cg,ch,ci,cj,ck,cm,cn,co,cp,cq,cr,ct,cu,cv,cw,cx,cy,cz,cA,cB,cC,cD,cE,cF,cG,cH,cI,cJ,cK,cL,cM,cN,cO,cP,cQ,cR,cS,cT,cU,cV,cW,cX,cY,cZ,da,db,dc,dd,de,df,dg,dh,di,dj,dk,dl,dm,dn,dp,dq,dr,ds,dt,du,dv,dw,dx,dy,dz,dA,dB,dC,dD,dE,dF,dG,dH,dI],defers:=[] } (W5.setCell ⟨B,11,none⟩ (.slice (some ⟨g,0,none⟩) n c)))∧W5.heap[B]?=some (.cells xs 30 (0,0)):=λv5 W5 ho hg ha=>by
  have hR:W5.ownsRow W.heap.size 53 6 v5 n news:=by simpa using ho
  have hS:Below W.heap.size W W5:=bW2.grown hg (by omega) (λk hk=>by cases hk;omega);have hD:=Ah hS hB;rcases hR.2 with ⟨e,_⟩|⟨g,cap,cur,e,hH,hW,hr⟩
  ·rw [e] at ha;rcases ha with ha|ha<;>cases ha
  ·subst e
   have hX:g≠B:=by have:=hH;omega
   refine ⟨g,cap,rfl,qh (hK g cap _ ⟨hR.1,Or.inr ⟨_,_,cur,rfl,hH,by rw [Below.heap_setCell _ _ _ _ hX];exact hW,hr⟩⟩ hH ((ButOne.of_below hS).trans (ButOne.setCell (p:=⟨B,11,none⟩) _)) (BO hD 11 _)),hD⟩
 have HO:=qh hG;have HS:=qh hC;have HL:=qh hl;have hY:=qh hL;have H1:=qh h1;have HA:=qh hQ;have hc:=qh hP;have hI:=qh sW2;have HX6:=qh hJ;clear hF hM hN hO hK hA hB h6 hl hL hE h1 bW2 sW2 hG hC hQ hJ;dsimp only;unfold elem52n10 AH
 conv=>arg 2;whnf
 go_wp2_with (at_builtin;refine AL rfl _ _ 28 rfl W.heap.size 53 i0 _ 6 64 Tryz.underlying28 I85.out.1 I85.out.2.1 I85.out.2.2.1 I85.out.2.2.2 rfl (by decide) _ 0 [] rfl HO.out ra n rc news rfl HL.out hY.out HS.out H1.out (by unfold maxLen;omega) (by omega) (by rw [hI.out];omega) ?_;intro v5 W5 hT hU hV;obtain ⟨g,c,rfl,hZ,hD⟩:=HA.out v5 W5 hT hU hV;have q6:W5.cell? ⟨B,11,none⟩=some (xs[11]'HX6.out):=Aa hD 11 (Array.getElem?_eq_getElem HX6.out);have z6:W5.frozen? ⟨B,11,none⟩=false:=(show FreeB W5 B from ⟨_,_,hD⟩).free _;clear hD;clear hT hU hV c6);exact hZ.out _ _ _ _ _ _ _ _ _ _ _ _ _ _ _ _ _ _ _ _ _ _ _ _ _ _ _ _ _ _ _ _ _ _ _ _ _ _ _ _ _ _ _ _ _ _ _ _ _ _ _ _ _ _ _ _ _ _ _ _ _ _ _ _ _ _ _ _ _ _ _ _ _ _ _ _ _ _ _ _ _ _ _ _ _ _ _ _ _ _ _ _ _ _ _ _ _ _ _ _ _ _ _ _ _ _ _ _ _ _ _ _ _ _ _ _ _ _ _ _ _ _ _
theorem RH(s:Ls)(ns k1 k2:List Int)(w V0 W0:World)(rv pv:Value)(B g D n fc dc:Nat)(hR:Rs s w V0 rv pv)(h8:s.At w)(hN:NsAt w s.refs ns)(hj:ns=k1++k2)(h9:NsAt V0 (Aw s.phrases) k1)(HO:NsAt V0 (Al (blk s.da) (off s.da) s.dances) k2)(hn:s.phrases.length=n)(hQ:s.strip.lims=true)(hk:s.strip.named=true)(HP:s.strip.apart=true)
  (hb:Below V0.heap.size V0 W0) (hB:W0.heap[B]?=some (.cells (Ls.cells { s with fa:=some ⟨g,0,none⟩,fc:=fc,da:=some ⟨D,0,none⟩,dc:=dc }) 30 (0,0))) (hy:B≠D) (HB:B≠g) (hg:g≠D) (h0:V0.heap.size≤D) (h3:V0.heap.size≤g) (h4:V0.heap.size≤B) (HD:g<W0.heap.size) (HE:D<W0.heap.size) (HR:FreeB W0 g) (h5:FreeB W0 D)
  (HS:Bd W0 g 0 s.phrases) (hl:DanI s.strip.rnames s.strip.pnames s.dances D 0 W0) (e0 e3 e4 e7 e9 eb ec ed ee ef eg eh ei ej ek el em en eo ep eq er es et eu ev ew ex ey ez eA eB eC eD eE eF eG eH eI eJ eK eL eM eN eO eP eQ eR eS eT eU eV eW eX eY eZ aa ab ac ae af ag ah ai aj ak al am an ap aq ar au av aw ax ay az aA aB aC aD aE aF aG aH aI aJ aK aL aM aN aO aP aQ aR aS aT aU aV aW aX aY aZ ba bb bc bd be bf bg bh bi bj bk bl bm bn bo bp bq br bs:Value) :
  (Ab 12 AH).wp Tryz.prog (bodyPost Tryz.prog Tryz.f52 (MS s ns w)) { tmps:=#[e0,.pointer (some ⟨w.heap.size,0,none⟩),.pointer (some ⟨(w.heap.size+1),0,none⟩),e3,e4,rv,pv,e7,.pointer (some ⟨B,0,none⟩),e9,eb,ec,ed,ee,ef,eg,eh,ei,ej,ek,el,em,en,eo,ep,eq,er,es,et,eu,ev,ew,ex,ey,ez,eA,eB,eC,eD,eE,eF,eG,eH,eI,eJ,eK,eL,eM,eN,eO,eP,eQ,eR,eS,eT,eU,eV,eW,eX,eY,eZ,aa,ab,ac,ae,af,ag,ah,ai,aj,ak,al,am,an,ap,aq,ar,au,av,aw,ax,ay,az,aA,aB,aC,aD,aE,aF,aG,aH,aI,aJ,aK,aL,aM,aN,aO,aP,aQ,aR,aS,aT,aU,aV,aW,aX,aY,aZ,ba,bb,bc,bd,be,bf,bg,bh,bi,bj,bk,bl,bm,bn,bo,bp,bq,br,bs],defers:=[] } W0:=by
 obtain ⟨HF,h6,Hl,HT⟩:=CZ hQ;have hA:s.At V0:=h8.below hR.below;have HU:s.strip.rnames.length≤100000:=by unfold Sc.rnames Ls.strip;simp;omega
 have HV:s.strip.pnames.length≤100000:=by unfold Sc.pnames Ls.strip;simp;omega
 have hS:PhT s.phrases V0.heap.size g 0 W0 [] s.phrases [] k1 W0:=⟨rfl,rfl,trivial,trivial,by simpa using HS,h9.below hb,by simp [AW],(λb hb=>by cases hb),⟨h3,HR⟩,E9 hA.phrases,HT,ButOne.refl _ _⟩
 have HW:k1.length=(s.strip.phrases.flatMap λp=>p.items.refs).length:=by
  rw [h9.len];have e1:=congrArg List.length (DA s.phrases);rw [List.length_map] at e1;exact e1
 have hG:=Nc s.strip (k1:=k1) (k2:=k2) HW;rw [← hj] at hG;have hT:=TG s.strip ns hQ hk HP;have hL:DI s.strip.rnames s.strip.pnames s.strip.phrases k1=none→Bs s.strip ns=170:=λh=>by rw [hT,hG,h];rfl
 have hE:∀n1,DI s.strip.rnames s.strip.pnames s.strip.phrases k1=some n1→∀z,DO s.strip.rnames s.strip.pnames s.dances k2=z→Bs s.strip ns=(if z.isSome then 0 else 170)∧s.strip.idx ns=z.map λb=>n1++b:=λn1 h z hz=>by
  have Hm:DO s.strip.rnames s.strip.pnames s.strip.dances k2=z:=hz;have hi:s.strip.idx ns=z.map λb=>n1++b:=by rw [hG,h,Hm];rfl
  exact ⟨by rw [hT,hi];cases z<;>rfl,hi⟩
 have y10:V0.cell? ⟨w.heap.size,10,none⟩=some (.slice s.fa n s.fc):=by rw [← hn];exact Aa hR.src 10 rfl
 have hm:(Ls.cells { s with fa:=some ⟨g,0,none⟩,fc:=fc,da:=some ⟨D,0,none⟩,dc:=dc })[10]?=some (.slice (some ⟨g,0,none⟩) n fc):=by rw [← hn];rfl
 have hU:=qh hm;have HG:=qh y10;have hH:=qh hR;have HA:=qh hA;have Hn:=qh h8;have Ho:=qh HO;have HX:=qh hn;have HY:=qh hL;have HZ:=qh hE;have Hp:=qh hS;have Ha:=qh HU;have Hb:=qh HV;have HH:=qh hb;have Hq:=qh hB;have HI:=qh hl;have HQ:=qh (And.intro hy (And.intro HB (And.intro hg (And.intro h0 (And.intro h3 (And.intro h4 (And.intro HD (And.intro HE (And.intro h5 (And.intro h6 (And.intro hj HF)))))))))));have H6:n≤64:=by omega
 clear hR h8 hN h9 HO hn hQ hk HP hb hB hy HB hg h0 h3 h4 HD HE HR h5 HS hl HF h6 Hl HT hA HU HV hS HW hG hT hL hE y10 hm hj;rw [NQ];refine Ae (λK hK=>?_);have HK:=qh hK;clear hK
 conv=>arg 2;whnf
 go_wp2_with fail;go_loopw [10] (λiv wr=>∃(i:Nat) (A R:List Ph) (n1 n2:List Int),iv=int i64 i∧i+R.length=n∧Hid (PhT s.phrases V0.heap.size g i W0 A R n1 n2 wr∧R=s.phrases.drop i∧DI s.strip.rnames s.strip.pnames s.strip.phrases k1=(DI s.strip.rnames s.strip.pnames (R.map Ph.strip) n2).map (n1++·))) (λiv _=>n+1-(intOf iv).toNat)
 case atStart=>exact ⟨0,[],s.phrases,[],k1,rfl,by rw [HX.out];omega,qh ⟨Hp.out,rfl,by simp [Ls.strip]⟩⟩
 case round =>
  obtain ⟨i,A,R,n1,n2,rfl,HJ,hS⟩:=hrel;have hM:Below V0.heap.size V0 wr:=HH.out.trans (hS.out.1.but.below HQ.out.2.2.2.2.1 HH.out.size);have hY:wr.heap[B]?=some (.cells (Ls.cells { s with fa:=some ⟨g,0,none⟩,fc:=fc,da:=some ⟨D,0,none⟩,dc:=dc }) 30 (0,0)):=hS.out.1.but.blocks Hq.out HQ.out.2.1;have c10:=Aa hY 10 hU.out
  cases R with
  | nil =>
   simp only [List.length_nil,Nat.add_zero] at HJ;subst HJ;have h:=hS.out.1
   have ho:n2=[]:=by
    have:=h.nsR
    cases n2 with
    | nil=>rfl
    | cons=>exact this.elim
   have hZ:=hS.out.2.2;rw [ho] at hZ;have hq:DI s.strip.rnames s.strip.pnames s.strip.phrases k1=some n1:=by rw [hZ];simp [DI,Ax]
   have hs:A.length=s.phrases.length:=by rw [h.len,HX.out]
   have ht:A.map Ph.strip=s.phrases.map Ph.strip:=by have:=h.strip;simpa using this
   have Hc:=qh hM;have HC:=qh hq;have Hr:=qh hs;have Hs:=qh ht;have Ht:Hid (wr.heap[B]?=some (.cells (Ls.cells { s with fa:=some ⟨g,0,none⟩,fc:=fc,phrases:=A,da:=some ⟨D,0,none⟩,dc:=dc }) 30 (0,0))):=qh (by rw [hY];unfold Ls.cells;simp only [hs]);clear h ho hZ hq hs ht hM hY;go_wp2_with fail;refine HK.out _ _ ?_;obtain ⟨hy,HB,hg,h0,h3,h4,HD,HE,h5,h6,hj,HF⟩:=HQ.out;have h:=hS.out.1;have hV:=hH.out.lt;refine RI s ns k1 k2 w V0 wr rv pv B D s.dances.length dc { s with fa:=some ⟨g,0,none⟩,fc:=fc,phrases:=A,da:=some ⟨D,0,none⟩,dc:=dc } n1 hH.out HA.out Ho.out rfl h6 Ha.out Hb.out Hc.out Ht.out rfl hy h0 h4 ?_ hj (HZ.out n1 HC.out) ?_ (HI.out.kept λq v hc=>h.but.cellk (Ne.symm hg) hc) ?_
   ·obtain ⟨cur,t,hf⟩:=h5
    exact ⟨cur,t,h.but.blocks hf (Ne.symm hg)⟩
   ·show ({ s with fa:=some ⟨g,0,none⟩,fc:=fc,phrases:=A,da:=some ⟨D,0,none⟩,dc:=dc }:Ls).strip=s.strip
    unfold Ls.strip;simp only [Hs.out]
   ·intro W W' hW Hd hd
    have Hu:Below w.heap.size w W':=by
     have b1:Below w.heap.size w wr:=hH.out.below.trans (Hc.out.mono (by omega));have b2:Below w.heap.size w W:=b1.trans (hW.below (by omega) b1.size);exact b2.trans (Hd.below (by omega) b2.size)
    have kb:∀b,b≠D→b≠w.heap.size+1→∀q v,wr.cell? ⟨b,q,none⟩=some v→W'.cell? ⟨b,q,none⟩=some v:=λb h1 h2 q v hc=>Hd.cellk h2 (hW.cellk h1 hc)
    have ko:∀c∈AW A,∀q v,wr.cell? ⟨c,q,none⟩=some v→W'.cell? ⟨c,q,none⟩=some v:=λc hc=>kb c (by have:=(h.own c hc).1;omega) (by have:=(h.own c hc).1;have:=HH.out.size;omega)
    have hF:s.At W':=Hn.out.below Hu;obtain ⟨Hv,Hw⟩:=DanI.done hd;have hs:=Hr.out;refine ⟨⟨hF.roles,hF.tempos,hF.pauses,hF.spans,Or.inr rfl,?_,Dz h.atA (λq v _ _=>kb g hg (by omega) q v) ko,Or.inr rfl,hF.dlen,Hv⟩,?_⟩
    ·show A.length≤maxLen
     rw [hs];exact hF.plen
    ·exact (h.nsA.kept λx hx v hc=>ko _ (Bo hx) _ _ hc).append Hw
  | cons p r =>
   simp only [List.length_cons] at HJ;have hi:(i:Int)<(n:Int):=by omega
   have h:=hS.out.1;have HL:=hS.out.2.1
   have hp:s.phrases[i]?=some p:=by
    have:=congrArg (λl=>l[0]?) HL;simp only [List.getElem?_cons_zero,List.getElem?_drop,Nat.add_zero] at this;exact this.symm
   have hu:r=s.phrases.drop (i+1):=by
    have:=congrArg (List.drop 1) HL;simpa [List.drop_drop] using this
   obtain ⟨e0,e1⟩:=Cm HA.out.phrases hp;unfold Ph.val at e1;have ea:=HA.out.pform.resolve_left (λe=>by rw [e] at hp;cases hp);have y10:=HG.out;rw [ea] at y10;obtain ⟨⟨q0,q1,qf,ql,qA⟩,hr⟩:=h.atR;unfold Ph.val at q1;obtain ⟨m1,m2,ho,k1',k2'⟩:=NsAt.split (xs:=p.refsL) h.nsR;obtain ⟨sm1,sm2⟩:=h.small p (by simp);have hZ:=hS.out.2.2;rw [ho,List.map_cons,LY _ _ (by rw [k1'.len];have e9:=congrArg List.length (Lt.refsL_key p.its (blk p.ia) (off p.ia));rw [List.length_map] at e9;exact e9)] at hZ
   have CI:∀V,Below V0.heap.size V0 V→Below wr.heap.size wr V→Calls Tryz.prog 83 #[.slice p.ia p.its.len p.ic,rv,pv] V (ItP s.strip.rnames s.strip.pnames p.its m1 V):=λV He hb =>
    Ng _ s.strip.rnames s.strip.pnames rv pv p.its Ha.out Hb.out (qn _) p.ia p.ic m1 V (hH.out.rr.below He) (hH.out.rp.below He) sm1 qf (qA.below hb) (k1'.below hb) sm2
   have Hf:=qh CI;have Hx:=qh k2';have Hg:=qh hZ;have Hy:=qh hu;have Hh:=qh h.gf.2;have Hi:=qh q1;generalize Hz:blk s.fa=fb at *;generalize H0:off s.fa=fo at *;clear Hz H0 ea h HL hu hp q0 q1 qf ql qA hr ho k1' k2' sm1 sm2 hZ CI e0;go_wp2_with fail;rcases hv:BA s.strip.rnames s.strip.pnames p.its.strip m1 with _|a
   ·have h7:=qh hv
    have hO:=qh (HY.out (by rw [Hg.out];show Option.map _ (Option.bind (BA _ _ p.its.strip m1) _)=none;rw [hv];rfl));clear hv HY HZ;refine wp_region_held (S:=λV=>Below V0.heap.size V0 V∧V.heap[B]?=some (.cells (Ls.cells { s with fa:=some ⟨g,0,none⟩,fc:=fc,da:=some ⟨D,0,none⟩,dc:=dc }) 30 (0,0))) (by kernel_rfl) ?_;change wpAnyH _ _ _ _ _ _ _ _ wr.drew;have hC:Below V0.heap.size V0 wr.drew∧wr.drew.heap[B]?=some (.cells (Ls.cells { s with fa:=some ⟨g,0,none⟩,fc:=fc,da:=some ⟨D,0,none⟩,dc:=dc }) 30 (0,0)):=⟨hM.drew,hY⟩;have ha:Below wr.heap.size wr wr.drew:=(Below.refl _ _).drew;generalize wr.drew=Wd at *;refine tk 0 _ (.pointer (some ⟨B,10,none⟩)) rfl (λV hb=>by go_simp) hC ?_
    try simp only [Act.put,qA,qB,qC,qD,qE,qF]
    refine tk 1 _ (.slice (some ⟨g,0,none⟩) n fc) rfl (λV hb=>by have q0:=Aa hb.2 10 hU.out;go_simp) hC ?_
    try simp only [Act.put,qA,qB,qC,qD,qE,qF]
    refine tk 2 _ (int i64 (i:Nat)) rfl (λV hb=>by go_simp) hC ?_
    try simp only [Act.put,qA,qB,qC,qD,qE,qF]
    refine tk 3 _ (.pointer (some ⟨w.heap.size,10,none⟩)) rfl (λV hb=>by go_simp) hC ?_
    try simp only [Act.put,qA,qB,qC,qD,qE,qF]
    refine tk 4 _ (.slice (some ⟨fb,fo,none⟩) n s.fc) rfl (λV hb=>by have q0:=Ac hb.1 y10;go_simp) hC ?_
    try simp only [Act.put,qA,qB,qC,qD,qE,qF]
    refine tk 5 _ (int i64 (i:Nat)) rfl (λV hb=>by go_simp) hC ?_
    try simp only [Act.put,qA,qB,qC,qD,qE,qF]
    refine tk 6 _ (.pointer (some ⟨fb,fo+i*2,none⟩)) rfl (λV hb=>by have q0:=hi;go_simp) hC ?_
    try simp only [Act.put,qA,qB,qC,qD,qE,qF]
    refine tk 7 _ (.pointer (some ⟨fb,fo+i*2+1,none⟩)) rfl (λV hb=>by go_simp) hC ?_
    try simp only [Act.put,qA,qB,qC,qD,qE,qF]
    refine tk 8 _ (.slice p.ia p.its.len p.ic) rfl (λV hb=>by have q0:=Ac hb.1 e1;go_simp) hC ?_
    try simp only [Act.put,qA,qB,qC,qD,qE,qF]
    refine tk 9 _ rv rfl (λV hb=>by go_simp) hC ?_
    try simp only [Act.put,qA,qB,qC,qD,qE,qF]
    refine tk 10 _ pv rfl (λV hb=>by go_simp) hC ?_
    try simp only [Act.put,qA,qB,qC,qD,qE,qF]
    refine tr 11 _ (by kernel_rfl) rfl λK1 hK=>?_
    go_simp;refine (Hf.out _ hC.1 ha).mono ?_;intro e w5 hw;obtain ⟨rfl,hI⟩:=hw.none h7.out;have hD:Below V0.heap.size V0 w5∧w5.heap[B]?=some (.cells (Ls.cells { s with fa:=some ⟨g,0,none⟩,fc:=fc,da:=some ⟨D,0,none⟩,dc:=dc }) 30 (0,0)):=⟨hC.1.trans (hI.mono hC.1.size),Ah hI hC.2⟩;have hP:Below wr.heap.size wr w5:=Ad ha hI;clear hI hC hw;refine hK.out _ _ hD (λ_=>?_);clear hK K1
    try simp only [Act.put,qA,qB,qC,qD,qE,qF]
    refine tk 12 _ (.tuple #[.slice none 0 0,.bool false]) rfl (λV hb=>by go_simp) hD ?_
    try simp only [Act.put,qA,qB,qC,qD,qE,qF]
    refine tk 13 _ (.slice none 0 0) rfl (λV hb=>by go_simp) hD ?_
    try simp only [Act.put,qA,qB,qC,qD,qE,qF]
    refine tk 14 _ (.bool false) rfl (λV hb=>by go_simp) hD ?_
    try simp only [Act.put,qA,qB,qC,qD,qE,qF]
    refine tk 15 _ (.pointer (some ⟨g,i*2,none⟩)) rfl (λV hb=>by have q0:=hi;go_simp) hD ?_
    try simp only [Act.put,qA,qB,qC,qD,qE,qF]
    refine tk 16 _ (.pointer (some ⟨g,i*2+1,none⟩)) rfl (λV hb=>by go_simp) hD ?_
    try simp only [Act.put,qA,qB,qC,qD,qE,qF]
    refine tr 17 _ (by kernel_rfl) rfl λK1 hK=>?_
    obtain ⟨W6,he⟩:∃W6,w5.setCell ⟨g,i*2+1,none⟩ (.slice none 0 0)=W6:=⟨_,rfl⟩;have hh:ButOne g wr W6:=by rw [← he];exact (ButOne.of_below hP).trans (ButOne.setCell (p:=⟨g,i*2+1,none⟩) _)
    have hJ:Below V0.heap.size V0 W6∧W6.heap[B]?=some (.cells (Ls.cells { s with fa:=some ⟨g,0,none⟩,fc:=fc,da:=some ⟨D,0,none⟩,dc:=dc }) 30 (0,0)):=⟨hM.trans (hh.below HQ.out.2.2.2.2.1 hM.size),hh.blocks hY HQ.out.2.1⟩;have qc:=Ac hP Hi.out;have qz:w5.frozen? ⟨g,i*2+1,none⟩=false:=(Hh.out.below hP).free _;go_simp
    try rw [he]
    refine hK.out _ _ hJ (λ_=>?_);clear hK K1
    try simp only [Act.put,qA,qB,qC,qD,qE,qF]
    refine tk 18 _ (.bool false) rfl (λV hb=>by go_simp) hJ ?_
    try simp only [Act.put,qA,qB,qC,qD,qE,qF]
    refine wpAnyH_done (by kernel_rfl) ?_ _;clear c10;have HM:W6.heap[w.heap.size+1]?=some (.cells zS 30 (0,0)):=(hJ.1.block _ hH.out.lt).trans hH.out.out;obtain ⟨W9,Hj,g9,b9⟩:=AC (cs:=zS) (n:=w.heap.size) HM (hH.out.below.trans (hJ.1.mono hH.out.below.size)) (by omega);have H1:=qh HM;have H2:=qh Hj;have H3:=qh g9;have H4:=qh b9;clear HM Hj g9 b9 hJ
    go_wp2_with (refine wpList_store_row rfl 30 _ _ rfl (w.heap.size+1) zS rfl rfl 30 _ H1.out (by kernel_rfl) rfl DY ?_;rw [H2.out]);refine bodyPost_ret (v:=.tuple #[.agg zS,int i64 170]) ?_ rfl (Or.inr ⟨by rw [hO.out];decide,by rw [hO.out],H4.out⟩);have hX:=H3.out;unfold zS at hX ⊢;have z0:=Aa hX 0 rfl;have z1:=Aa hX 1 rfl;have z2:=Aa hX 2 rfl;have z3:=Aa hX 3 rfl;have z4:=Aa hX 4 rfl;have z5:=Aa hX 5 rfl;have z6:=Aa hX 6 rfl;have z7:=Aa hX 7 rfl;have z8:=Aa hX 8 rfl;have z9:=Aa hX 9 rfl;have za:=Aa hX 10 rfl;have zb:=Aa hX 11 rfl;simp [results,Tryz.results52,go_sem,z0,z1,z2,z3,z4,z5,z6,z7,z8,z9,za,zb]
   have h7:=qh hv;clear hv;refine wp_region_held (S:=λV=>Below V0.heap.size V0 V∧V.heap[B]?=some (.cells (Ls.cells { s with fa:=some ⟨g,0,none⟩,fc:=fc,da:=some ⟨D,0,none⟩,dc:=dc }) 30 (0,0))) (by kernel_rfl) ?_;change wpAnyH _ _ _ _ _ _ _ _ wr.drew;have hC:Below V0.heap.size V0 wr.drew∧wr.drew.heap[B]?=some (.cells (Ls.cells { s with fa:=some ⟨g,0,none⟩,fc:=fc,da:=some ⟨D,0,none⟩,dc:=dc }) 30 (0,0)):=⟨hM.drew,hY⟩;have ha:Below wr.heap.size wr wr.drew:=(Below.refl _ _).drew;generalize wr.drew=Wd at *;refine tk 0 _ (.pointer (some ⟨B,10,none⟩)) rfl (λV hb=>by go_simp) hC ?_
   try simp only [Act.put,qA,qB,qC,qD,qE,qF]
   refine tk 1 _ (.slice (some ⟨g,0,none⟩) n fc) rfl (λV hb=>by have q0:=Aa hb.2 10 hU.out;go_simp) hC ?_
   try simp only [Act.put,qA,qB,qC,qD,qE,qF]
   refine tk 2 _ (int i64 (i:Nat)) rfl (λV hb=>by go_simp) hC ?_
   try simp only [Act.put,qA,qB,qC,qD,qE,qF]
   refine tk 3 _ (.pointer (some ⟨w.heap.size,10,none⟩)) rfl (λV hb=>by go_simp) hC ?_
   try simp only [Act.put,qA,qB,qC,qD,qE,qF]
   refine tk 4 _ (.slice (some ⟨fb,fo,none⟩) n s.fc) rfl (λV hb=>by have q0:=Ac hb.1 y10;go_simp) hC ?_
   try simp only [Act.put,qA,qB,qC,qD,qE,qF]
   refine tk 5 _ (int i64 (i:Nat)) rfl (λV hb=>by go_simp) hC ?_
   try simp only [Act.put,qA,qB,qC,qD,qE,qF]
   refine tk 6 _ (.pointer (some ⟨fb,fo+i*2,none⟩)) rfl (λV hb=>by have q0:=hi;go_simp) hC ?_
   try simp only [Act.put,qA,qB,qC,qD,qE,qF]
   refine tk 7 _ (.pointer (some ⟨fb,fo+i*2+1,none⟩)) rfl (λV hb=>by go_simp) hC ?_
   try simp only [Act.put,qA,qB,qC,qD,qE,qF]
   refine tk 8 _ (.slice p.ia p.its.len p.ic) rfl (λV hb=>by have q0:=Ac hb.1 e1;go_simp) hC ?_
   try simp only [Act.put,qA,qB,qC,qD,qE,qF]
   refine tk 9 _ rv rfl (λV hb=>by go_simp) hC ?_
   try simp only [Act.put,qA,qB,qC,qD,qE,qF]
   refine tk 10 _ pv rfl (λV hb=>by go_simp) hC ?_
   try simp only [Act.put,qA,qB,qC,qD,qE,qF]
   refine tr 11 _ (by kernel_rfl) rfl λK1 hK=>?_
   go_simp;refine (Hf.out _ hC.1 ha).mono ?_;intro e w5 hw;obtain ⟨ao,co,rfl,Hk,hI⟩:=hw.some h7.out;have hD:Below V0.heap.size V0 w5∧w5.heap[B]?=some (.cells (Ls.cells { s with fa:=some ⟨g,0,none⟩,fc:=fc,da:=some ⟨D,0,none⟩,dc:=dc }) 30 (0,0)):=⟨hC.1.trans (hI.mono hC.1.size),Ah hI hC.2⟩;have hP:Below wr.heap.size wr w5:=Ad ha hI;clear hI hC hw;refine hK.out _ _ hD (λ_=>?_);clear hK K1
   try simp only [Act.put,qA,qB,qC,qD,qE,qF]
   refine tk 12 _ (.tuple #[.slice ao p.its.len co,.bool true]) rfl (λV hb=>by go_simp) hD ?_
   try simp only [Act.put,qA,qB,qC,qD,qE,qF]
   refine tk 13 _ (.slice ao p.its.len co) rfl (λV hb=>by go_simp) hD ?_
   try simp only [Act.put,qA,qB,qC,qD,qE,qF]
   refine tk 14 _ (.bool true) rfl (λV hb=>by go_simp) hD ?_
   try simp only [Act.put,qA,qB,qC,qD,qE,qF]
   refine tk 15 _ (.pointer (some ⟨g,i*2,none⟩)) rfl (λV hb=>by have q0:=hi;go_simp) hD ?_
   try simp only [Act.put,qA,qB,qC,qD,qE,qF]
   refine tk 16 _ (.pointer (some ⟨g,i*2+1,none⟩)) rfl (λV hb=>by go_simp) hD ?_
   try simp only [Act.put,qA,qB,qC,qD,qE,qF]
   refine tr 17 _ (by kernel_rfl) rfl λK1 hK=>?_
   obtain ⟨W6,he⟩:∃W6,w5.setCell ⟨g,i*2+1,none⟩ (.slice ao p.its.len co)=W6:=⟨_,rfl⟩;have hh:ButOne g wr W6:=by rw [← he];exact (ButOne.of_below hP).trans (ButOne.setCell (p:=⟨g,i*2+1,none⟩) _)
   have hJ:Below V0.heap.size V0 W6∧W6.heap[B]?=some (.cells (Ls.cells { s with fa:=some ⟨g,0,none⟩,fc:=fc,da:=some ⟨D,0,none⟩,dc:=dc }) 30 (0,0)):=⟨hM.trans (hh.below HQ.out.2.2.2.2.1 hM.size),hh.blocks hY HQ.out.2.1⟩;have qc:=Ac hP Hi.out;have qz:w5.frozen? ⟨g,i*2+1,none⟩=false:=(Hh.out.below hP).free _;go_simp
   try rw [he]
   refine hK.out _ _ hJ (λ_=>?_);clear hK K1
   try simp only [Act.put,qA,qB,qC,qD,qE,qF]
   refine tk 18 _ (.bool true) rfl (λV hb=>by go_simp) hJ ?_
   try simp only [Act.put,qA,qB,qC,qD,qE,qF]
   refine wpAnyH_done (by kernel_rfl) ?_ _;obtain ⟨A',H5,hF⟩:=PT (ao':=ao) (co':=co) hS.out.1 Hx.out HQ.out.2.2.2.2.2.2.1 ha Hk;rw [he] at hF
   have HN:Hid (PhT s.phrases V0.heap.size g (i+1) W0 A' r (n1++a) m2 W6∧r=s.phrases.drop (i+1)∧DI s.strip.rnames s.strip.pnames s.strip.phrases k1=(DI s.strip.rnames s.strip.pnames (r.map Ph.strip) m2).map ((n1++a)++·)):=qh ⟨hF,Hy.out,by
    rw [Hg.out]
    show Option.map _ (Option.bind (BA _ _ p.its.strip m1) _)=_
    rw [h7.out]
    cases DI s.strip.rnames s.strip.pnames (r.map Ph.strip) m2<;>simp⟩
   clear hF H5 Hk hP he hh hJ qc qz c10 ha;go_wp2_with fail;go_roundw
   case rel=>exact ⟨i+1,A',r,n1++a,m2,by go_num,by omega,HN⟩
   case measure=>simp [intOf];omega
theorem GV{k n:Int}{un:Nm}{ja:Option Addr}{jc:Nat}{its:Lt}{ma:Option Addr}{mc:Nat}{ms:List Mov}{r:Lt}(h:(Lt.cons k n un ja jc its ma mc ms r).strip.kinds=true):(k=1∨k=2∨k=3∨k=4)∧its.strip.kinds=true∧r.strip.kinds=true:=by
 simp only [Lt.strip,Its.kinds,Bool.and_eq_true,decide_eq_true_eq] at h;exact ⟨by omega,h.2.2.1,h.2.2.2⟩
theorem Fg(T:Lt)(hI:∀T':Lt,T'.size<T.size→T'.strip.kinds=true→∀(ia:Option Addr) (ic:Nat) (ns:List Int) (W:World),(T'.len=0∨ia=some ⟨blk ia,off ia,none⟩)→T'.len≤maxLen→T'.At W (blk ia) (off ia)→NsAt W (T'.refsL (blk ia) (off ia)) ns→Calls Tryz.prog 28 #[.slice ia T'.len ic] W (Kf T'.strip.exB W))
  (hk:T.strip.kinds=true) (ia:Option Addr) (ic:Nat) (ns:List Int) (W:World) (hf:T.len=0∨ia=some ⟨blk ia,off ia,none⟩) (hl:T.len≤maxLen) (hT:T.At W (blk ia) (off ia)) (hN:NsAt W (T.refsL (blk ia) (off ia)) ns):Calls Tryz.prog 28 #[.slice ia T.len ic] W (Kf T.strip.exB W):=by
 have HI:=qh hI;have HT:=qh hT;have HF:=qh hf;have hg:=qh hN;have hh:=qh hk;clear hI hT hf hN hk;generalize hn:T.len=m at *;have HN:=qh hn;clear hn;unfold maxLen at hl;go_enter Tryz.func28,Tryz.ntmps28;go_wp2_with fail;go_loopw [3] (λiv wr=>∃(i:Nat) (R:Lt) (ks:List Int),iv=int i64 i∧i+R.len=m∧Hid (R.size≤T.size)∧Hid (R.strip.kinds=true)∧Hid (T.strip.exB=R.strip.exB)∧Hid (R.At wr (blk ia) (off ia+i*6))∧Hid (NsAt wr (R.refsL (blk ia) (off ia+i*6)) ks)∧Hid (Below W.heap.size W wr)) (λiv _=>m+1-(intOf iv).toNat)
 case atStart=>exact ⟨0,T,ns,rfl,by rw [HN.out];omega,qh (qn _),hh,qh rfl,by simpa [Hid] using HT.out,by simpa [Hid] using hg.out,qh (Below.refl _ _)⟩
 case round =>
  obtain ⟨i,R,ks,rfl,hW,hO,hX,hP,hR,hK,hB⟩:=hrel
  cases R with
  | nil =>
   simp only [Lt.len,Nat.add_zero] at hW;subst hW;have hj:=qh (show T.strip.exB=true from hP.out);clear hP hR hK hO hX;go_wp2_with fail;go_ret;exact ⟨by rw [hj.out];rfl,hB.out⟩
  | cons k n un ja jc its ma mc ms r =>
   simp only [Lt.len] at hW;have hi:(i:Int)<(m:Int):=by omega
   have e:=HF.out.resolve_left (by omega);obtain ⟨u,g0,g1,g2,g3,g4,g5,m1,m2,m3,hY,k1,k2,k3⟩:=Lt.At.cells hR.out hK.out;obtain ⟨_,⟨f1,f2,f3⟩,⟨i1,i2,i3⟩,hr⟩:=hR.out;obtain ⟨kk,ki1,ki2⟩:=GV hX.out;have hZ:its.size<T.size:=by have:=hO.out;simp only [Lt.size] at this;omega
   have hM:r.size≤T.size:=by have:=hO.out;simp only [Lt.size] at this;omega
   obtain ⟨W2,hp,gW2,bW2,sW2⟩:=Ag wr #[int i64 k,int i64 n,sv un,int i64 u,.slice ja its.len jc,.slice ma ms.length mc] 48;have C:=λ(V:World) (hv:Below W2.heap.size W2 V)=>HI.out its hZ ki1 ja jc m2 V i1 i2 (i3.below (Ad bW2 hv)) (k2.below (Ad bW2 hv))
   have CM:=KQ ms ma mc m1 W2 f1 f2 (C6 f3 bW2) (k1.below bW2)
   have hx:T.strip.exB=(D0 k n&&((decide (its.len=0)||(decide (k=2)||decide (k=3)))&&((decide (ms.length=0)||decide (k=1))&&((ms.all BX&&its.strip.exB)&&r.strip.exB)))):=by
    rw [hP.out];simp only [Lt.strip,Its.exB,Lt.strip_len]
   have HC:=qh C;have HX:=qh hx;have hC:=qh bW2;have hQ:=qh CM
   have HR:Hid (r.At wr (blk ia) (off ia+(i+1)*6)∧NsAt wr (r.refsL (blk ia) (off ia+(i+1)*6)) m3):=qh (by
    rw [show off ia+(i+1)*6=off ia+i*6+6 by omega]
    exact ⟨hr,k3⟩)
   have hS:=qh hM;have hU:=qh ki2;have z0:W2.cell? ⟨wr.heap.size,0,none⟩=some (int i64 k):=Aa gW2 0 rfl;have z1:W2.cell? ⟨wr.heap.size,1,none⟩=some (int i64 n):=Aa gW2 1 rfl;have z4:W2.cell? ⟨wr.heap.size,4,none⟩=some (.slice ja its.len jc):=Aa gW2 4 rfl;have z5:W2.cell? ⟨wr.heap.size,5,none⟩=some (.slice ma ms.length mc):=Aa gW2 5 rfl;have hV:Hid (∀V,Below W2.heap.size W2 V→V.cell? ⟨wr.heap.size,4,none⟩=some (.slice ja its.len jc)):=qh (λV hv=>Ac hv z4);clear C CM hx gW2 bW2 sW2 f1 f2 f3 i1 i2 i3 hr hZ k1 k2 k3 hY hR hK hP hO hM ki1 ki2 hX;generalize hm:blk ia=bb at *;generalize ho:off ia=oo at *;subst e;clear hm ho HF;generalize ha:its.len=pl at *;generalize hb:ms.length=ml at *;generalize hc:ms.all BX=mb at *;generalize hd:its.strip.exB=ib at *;have hs:=qh (And.intro ha (And.intro hb (And.intro hc hd)));clear ha hb hc hd;rcases kk with rfl|rfl|rfl|rfl
   ·skip
    by_cases q0:n=0
    case neg =>
     have he:(n != 0)=true:=by simp [q0]
     have hA:=qh (show T.strip.exB=false by rw [HX.out];unfold D0;rw [if_neg (by decide),decide_eq_false q0];rfl);clear HX
     go_wp2_with (go_at_call 30;refine (AG (by assumption) _).mono ?_;rintro e w' ⟨rfl,rfl⟩);go_ret;exact ⟨by rw [hA.out];rfl,Ad hB.out hC.out⟩
    subst q0;have hH:=qh (show D0 1 0=true from rfl);by_cases qpl:pl=0
    case neg =>
     have hq:(0:Int)<(pl:Int):=by omega
     have hA:=qh (show T.strip.exB=false by rw [HX.out];simp [qpl]);clear HX
     go_wp2_with (go_at_call 30;refine (AG (by assumption) _).mono ?_;rintro e w' ⟨rfl,rfl⟩);go_ret;exact ⟨by rw [hA.out];rfl,Ad hB.out hC.out⟩
    subst qpl;have hE:=qh (show T.strip.exB=((mb&&ib)&&r.strip.exB) by rw [HX.out,hH.out];simp);clear HX hH
    go_wp2_with (go_at_call 30;refine (AG (by assumption) _).mono ?_;rintro e w' ⟨rfl,rfl⟩);refine hQ.out.mono ?_;rintro e w3 ⟨rfl,hF⟩;have hG:=qh hF;have z9:=hV.out _ hF;clear hF z0 z1 z4 z5 g0 g1 g2 g3 g4 g5;rcases AY mb with rfl|rfl
    ·have hA:=qh (show T.strip.exB=false by rw [hE.out];simp)
     go_wp2_with fail;go_ret;exact ⟨by rw [hA.out];rfl,Ad hB.out (Ad hC.out hG.out)⟩
    go_wp2_with fail;refine (HC.out _ hG.out).mono ?_;rintro e w4 ⟨rfl,hJ⟩;have hD:=qh (Ad hG.out hJ);clear hJ z9;rcases AY ib with rfl|rfl
    ·have hA:=qh (show T.strip.exB=false by rw [hE.out];simp)
     go_wp2_with fail;go_ret;exact ⟨by rw [hA.out];rfl,Ad hB.out (Ad hC.out hD.out)⟩
    have hL:=qh (show T.strip.exB=r.strip.exB by rw [hE.out];simp);go_wp2_with fail;go_roundw
    case rel=>exact ⟨i+1,r,m3,by go_num,by omega,hS,hU,hL,qh (HR.out.1.below (Ad hC.out hD.out)),qh (HR.out.2.below (Ad hC.out hD.out)),qh (Ad hB.out (Ad hC.out hD.out))⟩
    case measure=>simp [intOf];omega
   ·skip
    rcases AY (inB n 1 64) with q0|q0
    ·skip
     have hA:=qh (show T.strip.exB=false by rw [HX.out];unfold D0;rw [if_pos rfl,q0];rfl);clear HX
     go_wp2_with (go_at_call 30;refine (AG (by assumption) _).mono ?_;rintro e w' ⟨rfl,rfl⟩);go_ret;exact ⟨by rw [hA.out];rfl,Ad hB.out hC.out⟩
    have hH:=qh (show D0 2 n=true by unfold D0;rw [if_pos rfl];exact q0);by_cases qml:ml=0
    case neg =>
     have hq:(0:Int)<(ml:Int):=by omega
     have hA:=qh (show T.strip.exB=false by rw [HX.out];simp [qml]);clear HX
     go_wp2_with (go_at_call 30;refine (AG (by assumption) _).mono ?_;rintro e w' ⟨rfl,rfl⟩);go_ret;exact ⟨by rw [hA.out];rfl,Ad hB.out hC.out⟩
    subst qml;have hE:=qh (show T.strip.exB=((mb&&ib)&&r.strip.exB) by rw [HX.out,hH.out];simp);clear HX hH
    go_wp2_with (go_at_call 30;refine (AG (by assumption) _).mono ?_;rintro e w' ⟨rfl,rfl⟩);refine hQ.out.mono ?_;rintro e w3 ⟨rfl,hF⟩;have hG:=qh hF;have z9:=hV.out _ hF;clear hF z0 z1 z4 z5 g0 g1 g2 g3 g4 g5;rcases AY mb with rfl|rfl
    ·have hA:=qh (show T.strip.exB=false by rw [hE.out];simp)
     go_wp2_with fail;go_ret;exact ⟨by rw [hA.out];rfl,Ad hB.out (Ad hC.out hG.out)⟩
    go_wp2_with fail;refine (HC.out _ hG.out).mono ?_;rintro e w4 ⟨rfl,hJ⟩;have hD:=qh (Ad hG.out hJ);clear hJ z9;rcases AY ib with rfl|rfl
    ·have hA:=qh (show T.strip.exB=false by rw [hE.out];simp)
     go_wp2_with fail;go_ret;exact ⟨by rw [hA.out];rfl,Ad hB.out (Ad hC.out hD.out)⟩
    have hL:=qh (show T.strip.exB=r.strip.exB by rw [hE.out];simp);go_wp2_with fail;go_roundw
    case rel=>exact ⟨i+1,r,m3,by go_num,by omega,hS,hU,hL,qh (HR.out.1.below (Ad hC.out hD.out)),qh (HR.out.2.below (Ad hC.out hD.out)),qh (Ad hB.out (Ad hC.out hD.out))⟩
    case measure=>simp [intOf];omega
   ·skip
    by_cases q0:n=0
    case neg =>
     have he:(n != 0)=true:=by simp [q0]
     have hA:=qh (show T.strip.exB=false by rw [HX.out];unfold D0;rw [if_neg (by decide),decide_eq_false q0];rfl);clear HX
     go_wp2_with (go_at_call 30;refine (AG (by assumption) _).mono ?_;rintro e w' ⟨rfl,rfl⟩);go_ret;exact ⟨by rw [hA.out];rfl,Ad hB.out hC.out⟩
    subst q0;have hH:=qh (show D0 3 0=true from rfl);by_cases qml:ml=0
    case neg =>
     have hq:(0:Int)<(ml:Int):=by omega
     have hA:=qh (show T.strip.exB=false by rw [HX.out];simp [qml]);clear HX
     go_wp2_with (go_at_call 30;refine (AG (by assumption) _).mono ?_;rintro e w' ⟨rfl,rfl⟩);go_ret;exact ⟨by rw [hA.out];rfl,Ad hB.out hC.out⟩
    subst qml;have hE:=qh (show T.strip.exB=((mb&&ib)&&r.strip.exB) by rw [HX.out,hH.out];simp);clear HX hH
    go_wp2_with (go_at_call 30;refine (AG (by assumption) _).mono ?_;rintro e w' ⟨rfl,rfl⟩);refine hQ.out.mono ?_;rintro e w3 ⟨rfl,hF⟩;have hG:=qh hF;have z9:=hV.out _ hF;clear hF z0 z1 z4 z5 g0 g1 g2 g3 g4 g5;rcases AY mb with rfl|rfl
    ·have hA:=qh (show T.strip.exB=false by rw [hE.out];simp)
     go_wp2_with fail;go_ret;exact ⟨by rw [hA.out];rfl,Ad hB.out (Ad hC.out hG.out)⟩
    go_wp2_with fail;refine (HC.out _ hG.out).mono ?_;rintro e w4 ⟨rfl,hJ⟩;have hD:=qh (Ad hG.out hJ);clear hJ z9;rcases AY ib with rfl|rfl
    ·have hA:=qh (show T.strip.exB=false by rw [hE.out];simp)
     go_wp2_with fail;go_ret;exact ⟨by rw [hA.out];rfl,Ad hB.out (Ad hC.out hD.out)⟩
    have hL:=qh (show T.strip.exB=r.strip.exB by rw [hE.out];simp);go_wp2_with fail;go_roundw
    case rel=>exact ⟨i+1,r,m3,by go_num,by omega,hS,hU,hL,qh (HR.out.1.below (Ad hC.out hD.out)),qh (HR.out.2.below (Ad hC.out hD.out)),qh (Ad hB.out (Ad hC.out hD.out))⟩
    case measure=>simp [intOf];omega
   ·skip
    by_cases q0:n=0
    case neg =>
     have he:(n != 0)=true:=by simp [q0]
     have hA:=qh (show T.strip.exB=false by rw [HX.out];unfold D0;rw [if_neg (by decide),decide_eq_false q0];rfl);clear HX
     go_wp2_with (go_at_call 30;refine (AG (by assumption) _).mono ?_;rintro e w' ⟨rfl,rfl⟩);go_ret;exact ⟨by rw [hA.out];rfl,Ad hB.out hC.out⟩
    subst q0;have hH:=qh (show D0 4 0=true from rfl);by_cases qpl:pl=0
    case neg =>
     have hq:(0:Int)<(pl:Int):=by omega
     have hA:=qh (show T.strip.exB=false by rw [HX.out];simp [qpl]);clear HX
     go_wp2_with (go_at_call 30;refine (AG (by assumption) _).mono ?_;rintro e w' ⟨rfl,rfl⟩);go_ret;exact ⟨by rw [hA.out];rfl,Ad hB.out hC.out⟩
    subst qpl;by_cases qml:ml=0
    case neg =>
     have hq:(0:Int)<(ml:Int):=by omega
     have hA:=qh (show T.strip.exB=false by rw [HX.out];simp [qml]);clear HX
     go_wp2_with (go_at_call 30;refine (AG (by assumption) _).mono ?_;rintro e w' ⟨rfl,rfl⟩);go_ret;exact ⟨by rw [hA.out];rfl,Ad hB.out hC.out⟩
    subst qml;have hE:=qh (show T.strip.exB=((mb&&ib)&&r.strip.exB) by rw [HX.out,hH.out];simp);clear HX hH
    go_wp2_with (go_at_call 30;refine (AG (by assumption) _).mono ?_;rintro e w' ⟨rfl,rfl⟩);refine hQ.out.mono ?_;rintro e w3 ⟨rfl,hF⟩;have hG:=qh hF;have z9:=hV.out _ hF;clear hF z0 z1 z4 z5 g0 g1 g2 g3 g4 g5;rcases AY mb with rfl|rfl
    ·have hA:=qh (show T.strip.exB=false by rw [hE.out];simp)
     go_wp2_with fail;go_ret;exact ⟨by rw [hA.out];rfl,Ad hB.out (Ad hC.out hG.out)⟩
    go_wp2_with fail;refine (HC.out _ hG.out).mono ?_;rintro e w4 ⟨rfl,hJ⟩;have hD:=qh (Ad hG.out hJ);clear hJ z9;rcases AY ib with rfl|rfl
    ·have hA:=qh (show T.strip.exB=false by rw [hE.out];simp)
     go_wp2_with fail;go_ret;exact ⟨by rw [hA.out];rfl,Ad hB.out (Ad hC.out hD.out)⟩
    have hL:=qh (show T.strip.exB=r.strip.exB by rw [hE.out];simp);go_wp2_with fail;go_roundw
    case rel=>exact ⟨i+1,r,m3,by go_num,by omega,hS,hU,hL,qh (HR.out.1.below (Ad hC.out hD.out)),qh (HR.out.2.below (Ad hC.out hD.out)),qh (Ad hB.out (Ad hC.out hD.out))⟩
    case measure=>simp [intOf];omega
theorem KH:∀(s:Nat) (T:Lt),T.size≤s→T.strip.kinds=true→∀(ia:Option Addr) (ic:Nat) (ns:List Int) (W:World),(T.len=0∨ia=some ⟨blk ia,off ia,none⟩)→T.len≤maxLen→T.At W (blk ia) (off ia)→NsAt W (T.refsL (blk ia) (off ia)) ns→Calls Tryz.prog 28 #[.slice ia T.len ic] W (Kf T.strip.exB W):=by
 intro s
 induction s with
 | zero=>intro T hs;exact Fg T (λT' hA=>absurd hA (by omega))
 | succ s ih=>intro T hs;exact Fg T (λT' hA=>ih T' (by omega))
def Dn(T:Its)(d:Nat)(n:Int):Prop:=T.ok d=true∧n+T.size≤4096
def EG(T:Its)(d:Nat)(n:Int):Prop:=(T.len=0∨d≤16)∧Dn T d n
def Og(T:Its)(d:Nat)(n:Int)(W:World)(e:Ending)(w':World):Prop:=∃r:Int,e=.returned (int i64 r)∧r≤4097∧((EG T d n∧r=n+T.size)∨(¬EG T d n∧r=4097))∧W=w'
theorem Na{k nn:Int}{un:Nm}{its:Its}{ms:List Mov}{r:Its}{d:Nat}{a:Int}:Dn (.cons k nn un its ms r) d a↔ms.length≤64∧EG its (d+1) (a+1)∧Dn r d (a+1+its.size)∧a+1+its.size≤4096:=by
 unfold EG Dn;rw [Its.ok_cons];have:((Its.cons k nn un its ms r).size:Int)=its.size+r.size+1:=by simp only [Its.size];omega
 rw [this]
 constructor
 ·rintro ⟨⟨h1,h2,h3,h4⟩,h5⟩;exact ⟨h1,⟨h2,h3,by omega⟩,⟨h4,by omega⟩,by omega⟩
 ·rintro ⟨h1,⟨h2,h3,h6⟩,⟨h4,h5⟩,h7⟩;exact ⟨⟨h1,h2,h3,h4⟩,by omega⟩
theorem Jg(T:Lt)(hI:∀T':Lt,T'.size<T.size→∀(ia:Option Addr) (ic d:Nat) (n:Int) (W:World),d≤17→0≤n→n≤4097→(T'.len=0∨ia=some ⟨blk ia,off ia,none⟩)→T'.len≤maxLen→T'.At W (blk ia) (off ia)→Calls Tryz.prog 98 #[.slice ia T'.len ic,int i64 (d:Nat),int i64 n] W (Og T'.strip d n W))
  (ia:Option Addr) (ic d:Nat) (n:Int) (W:World) (hd:d≤17) (hX:0≤n) (hN:n≤4097) (hf:T.len=0∨ia=some ⟨blk ia,off ia,none⟩) (hl:T.len≤maxLen) (hT:T.At W (blk ia) (off ia)):Calls Tryz.prog 98 #[.slice ia T.len ic,int i64 (d:Nat),int i64 n] W (Og T.strip d n W):=by
 have HI:=qh hI;have HT:=qh hT;have HF:=qh hf;clear hI hT hf;have hO:T.strip.len=T.len:=Lt.strip_len T;generalize hm:T.len=q at *;have HM:=qh hm;have hJ:=qh hO;clear hm hO;unfold maxLen at hl;by_cases hC:0<q∧16<d
 ·obtain ⟨h1,h2⟩:=hC
  have hn:(0:Int)<(q:Int):=by omega
  have ho:(16:Int)<(d:Int):=by omega
  have hF:Hid (¬EG T.strip d n):=qh (λh=>by
   rcases h.1 with h|h
   ·rw [hJ.out] at h;omega
   ·omega)
  go_enter Tryz.func98,Tryz.ntmps98;go_wp2_with fail;go_ret;exact ⟨4097,rfl,by omega,Or.inr ⟨hF.out,rfl⟩,rfl⟩
 have hP:q=0∨d≤16:=by omega
 have hK:=qh hP;have hE:(¬(0:Int)<(q:Int))∨((0:Int)<(q:Int)∧¬(16:Int)<(d:Int)):=by omega
 clear hC hP;rcases hE with hs|⟨hp,hq⟩
 ·obtain rfl:q=0:=by omega
  cases T with
  | cons k nn un ja jc its ma mc ms r=>have:=HM.out;simp only [Lt.len] at this;omega
  | nil =>
  have HR:Hid ((EG Lt.nil.strip d n∧n=n+(Lt.nil.strip.size:Int))∨(¬EG Lt.nil.strip d n∧n=4097)):=qh (by
   have hz:(Lt.nil.strip.size:Int)=0:=rfl;by_cases hb:n≤4096
   ·exact Or.inl ⟨⟨Or.inl rfl,rfl,by omega⟩,by omega⟩
   ·exact Or.inr ⟨λh=>by have:=h.2.2;omega,by omega⟩)
  clear hs HI HT HF HM hJ hK;go_enter Tryz.func98,Tryz.ntmps98;go_wp2_with fail;go_loopw [2,7] (λnv iv wr=>nv=int i64 n∧iv=int i64 0∧wr=W) (λ_ _ _=>1)
  case atStart=>exact ⟨rfl,rfl,rfl⟩
  case round =>
   obtain ⟨rfl,rfl,rfl⟩:=hrel;go_wp2_with fail;go_ret;exact ⟨n,rfl,hN,HR.out,rfl⟩
 ·go_enter Tryz.func98,Tryz.ntmps98
  go_wp2_with fail;go_loopw [2,7] (λnv iv wr=>∃(i:Nat) (R:Lt) (a:Int),iv=int i64 i∧nv=int i64 a∧i+R.len=q∧0≤a∧a≤4097∧Hid (R.size≤T.size)∧Hid ((Dn T.strip d n↔Dn R.strip d a)∧(Dn R.strip d a→n+T.strip.size=a+R.strip.size))∧Hid (R.At W (blk ia) (off ia+i*6))∧wr=W) (λ_ iv _=>q+1-(intOf iv).toNat)
  case atStart=>exact ⟨0,T,n,rfl,rfl,by rw [HM.out];omega,hX,hN,qh (qn _),qh ⟨Iff.rfl,λ_=>rfl⟩,by simpa [Hid] using HT.out,rfl⟩
  case round =>
   obtain ⟨i,R,a,rfl,rfl,hL,ht,hY,hH,hD,hR,rfl⟩:=hrel;by_cases hZ:a≤4096
   ·cases R with
    | nil =>
     simp only [Lt.len,Nat.add_zero] at hL;subst hL
     have HG:Hid (EG T.strip d n∧a=n+T.strip.size):=qh (by
      have h1:Dn Lt.nil.strip d a:=⟨rfl,by show a+((0:Nat):Int)≤4096;omega⟩;have h2:=hD.out.2 h1;refine ⟨⟨by rw [hJ.out];exact hK.out,hD.out.1.2 h1⟩,?_⟩;have:(Lt.nil.strip.size:Int)=0:=rfl
      omega)
     clear hD hR hH;go_wp2_with fail;go_ret;exact ⟨a,rfl,hY,Or.inl HG.out,rfl⟩
    | cons k nn un ja jc its ma mc ms r =>
     simp only [Lt.len] at hL;have hi:(i:Int)<(q:Int):=by omega
     have e:=HF.out.resolve_left (by omega);obtain ⟨⟨g0,g1,g2,g4,g5⟩,_,⟨i1,i2,i3⟩,hr⟩:=hR.out;have hM:its.size<T.size:=by have:=hH.out;simp only [Lt.size] at this;omega
     have hG:r.size≤T.size:=by have:=hH.out;simp only [Lt.size] at this;omega
     have hQ:=Na (k:=k) (nn:=nn) (un:=un) (its:=its.strip) (ms:=ms) (r:=r.strip) (d:=d) (a:=a);have C:=HI.out its hM ja jc (d+1) (a+1) wr (by have:=hK.out;omega) (by omega) (by omega) i1 i2 i3;have HC:=qh C;have hS:=qh hQ;have ha:=qh hG
     have HR:Hid (r.At wr (blk ia) (off ia+(i+1)*6)):=qh (by
      rw [show off ia+(i+1)*6=off ia+i*6+6 by omega]
      exact hr)
     have hc:Hid (((Lt.cons k nn un ja jc its ma mc ms r).strip.size:Int)=its.strip.size+r.strip.size+1):=qh (by simp only [Lt.strip,Its.size];omega);have hU:((d+1:Nat):Int)=(d:Int)+1:=by omega
     rw [hU] at HC;clear C hQ i1 i2 i3 hr hR hH hM hG hU;generalize hV:ms.length=ml at *;have hu:=qh hV;clear hV;generalize he:blk ia=bb at *;generalize hg:off ia=oo at *;subst e;clear he hg HF;by_cases hv:(64:Int)<(ml:Int)
     ·have hF:Hid (¬EG T.strip d n):=qh (λh=>by
       have:=hS.out.1 (hD.out.1.1 h.2)
       omega)
      go_wp2_with fail;go_ret;exact ⟨4097,rfl,by omega,Or.inr ⟨hF.out,rfl⟩,rfl⟩
     ·go_wp2_with (go_at_call 98;refine HC.out.mono ?_;rintro e w5 ⟨x,rfl,hh,hW,rfl⟩;have HX:=qh hW;clear hW)
      have hj:0≤x:=by rcases HX.out with ⟨_,h⟩|⟨_,h⟩<;>omega
      have HN:Hid ((Dn T.strip d n↔Dn r.strip d x)∧(Dn r.strip d x→n+T.strip.size=x+r.strip.size)):=qh (by
       have hA:=hD.out.1.trans hS.out;rcases HX.out with ⟨h1,h2⟩|⟨h1,h2⟩
       ·have hB:Dn r.strip d x→Dn T.strip d n:=λh=>hA.2 ⟨by omega,h1,by rw [← h2];exact h,by have:=h.2;omega⟩
        refine ⟨⟨λh=>by rw [h2];exact (hA.1 h).2.2.1,hB⟩,λh=>?_⟩;have:=hD.out.2 (hD.out.1.1 (hB h));have:=hc.out;omega
       ·have hB:¬Dn r.strip d x:=λh=>by have:=h.2;omega
        exact ⟨⟨λh=>absurd (hA.1 h).2.1 h1,λh=>absurd h hB⟩,λh=>absurd h hB⟩)
      go_roundw
      case rel=>exact ⟨i+1,r,x,by go_num,rfl,by omega,hj,hh,ha,HN,HR,trivial⟩
      case measure=>simp [intOf];omega
   ·have hk:a=4097:=by omega
    have hF:Hid (¬EG T.strip d n):=qh (λh=>by
     have:=(hD.out.1.1 h.2).2
     omega)
    subst hk;by_cases hM:i<q
    ·have hi:(i:Int)<(q:Int):=by omega
     go_wp2_with fail;go_ret;exact ⟨4097,rfl,by omega,Or.inr ⟨hF.out,rfl⟩,rfl⟩
    ·have hi:¬(i:Int)<(q:Int):=by omega
     go_wp2_with fail;go_ret;exact ⟨4097,rfl,by omega,Or.inr ⟨hF.out,rfl⟩,rfl⟩
theorem Px:∀(z:Nat) (T:Lt),T.size≤z→∀(ia:Option Addr) (ic d:Nat) (n:Int) (W:World),d≤17→0≤n→n≤4097→(T.len=0∨ia=some ⟨blk ia,off ia,none⟩)→T.len≤maxLen→T.At W (blk ia) (off ia)→Calls Tryz.prog 98 #[.slice ia T.len ic,int i64 (d:Nat),int i64 n] W (Og T.strip d n W):=by
 intro z
 induction z with
 | zero=>intro T hs;exact Jg T (λT' hA=>absurd hA (by omega))
 | succ z ih=>intro T hs;exact Jg T (λT' hA=>ih T' (by omega))
end
section
open Go Go.RowKit Go.Deep
def gb(l:List Bool)(j:Nat):Bool:=l.getD j false
def gi(l:List Int)(j:Nat):Int:=l.getD j 0
theorem T0{D:List Bool}{j:Nat}(hj:j<D.length):D[j]?=some (gb D j):=by
 unfold gb;rw [List.getD_eq_getElem?_getD,qg hj,Option.getD_some]
theorem T5{D:List Int}{j:Nat}(hj:j<D.length):D[j]?=some (gi D j):=by
 unfold gi;rw [List.getD_eq_getElem?_getD,qg hj,Option.getD_some]
theorem T4(D:List Bool)(i j:Nat)(x:Bool)(hi:i<D.length):gb (D.set i x) j=if j=i then x else gb D j:=by
 unfold gb;rw [List.getD_eq_getElem?_getD,List.getElem?_set];by_cases h:i=j
 ·subst h;rw [if_pos rfl,if_pos hi,if_pos rfl];rfl
 ·rw [if_neg h,if_neg (λe=>h e.symm),← List.getD_eq_getElem?_getD]
theorem JM(D:List Int)(i j:Nat)(x:Int)(hi:i<D.length):gi (D.set i x) j=if j=i then x else gi D j:=by
 unfold gi;rw [List.getD_eq_getElem?_getD,List.getElem?_set];by_cases h:i=j
 ·subst h;rw [if_pos rfl,if_pos hi,if_pos rfl];rfl
 ·rw [if_neg h,if_neg (λe=>h e.symm),← List.getD_eq_getElem?_getD]
theorem T3(m j:Nat):gb (List.replicate m false) j=false:=by
 unfold gb;rw [List.getD_eq_getElem?_getD,List.getElem?_replicate]
 split<;>rfl
theorem T6(m j:Nat)(x:Int)(h:j<m):gi (List.replicate m x) j=x:=by
 unfold gi;rw [List.getD_eq_getElem?_getD,List.getElem?_replicate,if_pos h];rfl
def JJ(l:List Bool):List Value:=l.map Value.bool
def BB(w:World)(g:Nat)(l:List Bool):Prop:=w.heap[g]?=some (.cells (JJ l).toArray 4 (0,0))
def BI(w:World)(g:Nat)(l:List Int):Prop:=w.heap[g]?=some (.cells (Ci l).toArray 3 (0,0))
theorem Te:(Tryz.prog.info? 4).map (λi=>(i.zero,i.size,i.bytes))=some (some (.bool false),1,1):=by kernel_rfl
theorem LP(m:Nat)(hm:m≤1000)(w:World):(Instr.makeSlice 73 (int i64 m) (int i64 m)).run Tryz.prog w=.ok (.slice (some ⟨w.heap.size,0,none⟩) m m) (w.alloc (.cells (Array.replicate m (.bool false)) 4)):=by
 obtain ⟨i,h1,h2,h3,h4⟩:=info_parts Te;have h:=run_make (P:=Tryz.prog) w 73 4 i (.bool false) Tryz.underlying73 h1 h2 .i64 .i64 m m (by omega) (Int.le_refl _) (by rw [h4];omega) (by omega);rw [h,h3];simp [Value.cells,LO]
theorem Jf(m:Nat)(hm:m≤1000)(w:World):(Instr.makeSlice 35 (int i64 m) (int i64 m)).run Tryz.prog w=.ok (.slice (some ⟨w.heap.size,0,none⟩) m m) (w.alloc (.cells (Array.replicate m (int i64 0)) 3)):=by
 obtain ⟨i,h1,h2,h3,h4⟩:=info_parts LI;have h:=run_make (P:=Tryz.prog) w 35 3 i (int i64 0) Tryz.underlying35 h1 h2 .i64 .i64 m m (by omega) (Int.le_refl _) (by rw [h4];omega) (by omega);rw [h,h3];simp [Value.cells,LO]
theorem Lc{W:World}{B:Nat}{cs:Array Value}{t:TypeId}(h:W.heap[B]?=some (.cells cs t (0,0)))(j:Nat)(v:Value):(W.setCell ⟨B,j,none⟩ v).heap[B]?=some (.cells (cs.setIfInBounds j v) t (0,0)):=by
 simp only [World.setCell,Array.getElem?_modify,h,if_true,Option.map_some];rfl
section
variable {w:World} {g:Nat} {bl:List Bool} {l:List Int}
theorem BB.lt(h:BB w g bl):g<w.heap.size:=(qs.1 h).1
theorem BI.lt(h:BI w g l):g<w.heap.size:=(qs.1 h).1
theorem BB.cell(h:BB w g bl){j:Nat}(hj:j<bl.length):w.cell? ⟨g,j,none⟩=some (.bool (gb bl j)):=by
 refine Aa h j ?_;rw [List.getElem?_toArray];unfold JJ;rw [List.getElem?_map,T0 hj];rfl
theorem BI.cell(h:BI w g l){j:Nat}(hj:j<l.length):w.cell? ⟨g,j,none⟩=some (int i64 (gi l j)):=by
 refine Aa h j ?_;rw [List.getElem?_toArray];unfold Ci;rw [List.getElem?_map,T5 hj];rfl
theorem BB.free(h:BB w g bl)(j:Nat):w.frozen? ⟨g,j,none⟩=false:=by unfold BB at *;simp [World.frozen?,h]
theorem BI.free(h:BI w g l)(j:Nat):w.frozen? ⟨g,j,none⟩=false:=by unfold BI at *;simp [World.frozen?,h]
theorem BI.below{w':World}{B:Nat}(h:BI w g l)(hb:Below B w w')(hB:g<B):BI w' g l:=(hb.block _ hB).trans h
theorem BB.set(h:BB w g bl)(j:Nat)(x:Bool):BB (w.setCell ⟨g,j,none⟩ (.bool x)) g (bl.set j x):=by
 unfold BB at h ⊢;rw [Lc h j _];simp [JJ]
theorem BI.set(h:BI w g l)(j:Nat)(x:Int):BI (w.setCell ⟨g,j,none⟩ (int i64 x)) g (l.set j x):=by
 unfold BI at h ⊢;rw [Lc h j _];simp [Ci]
theorem BB.new(w:World)(m:Nat):BB (w.alloc (.cells (Array.replicate m (.bool false)) 4)) w.heap.size (List.replicate m false):=by
 unfold BB;rw [heap_alloc_new w _];simp [JJ]
theorem BI.new(w:World)(m:Nat):BI (w.alloc (.cells (Array.replicate m (int i64 0)) 3)) w.heap.size (List.replicate m 0):=by
 unfold BI;rw [heap_alloc_new w _];simp [Ci]
end
def Bv(l:List Bool)(us:List Int):List Bool:=us.foldl (λl u=>l.set u.toNat true) l
theorem Jh(l:List Bool)(us:List Int):(Bv l us).length=l.length:=by
 induction us generalizing l with
 | nil=>rfl
 | cons u us ih=>show (Bv (l.set u.toNat true) us).length=_;rw [ih];simp
theorem Np(l:List Bool)(us vs:List Int):Bv l (us++vs)=Bv (Bv l us) vs:=by unfold Bv;rw [List.foldl_append]
theorem Py(us:List Int):∀(l:List Bool) (j:Nat),(∀u∈us,∃i:Nat,u=i∧i<l.length)→gb (Bv l us) j=(gb l j||decide ((j:Int)∈us)):=by
 induction us with
 | nil=>intro l j h;simp [Bv]
 | cons u us ih =>
  intro l j h;obtain ⟨i,rfl,hi⟩:=h u (by simp)
  show gb (Bv (l.set (i:Int).toNat true) us) j=_
  rw [ih _ _ (λv hv=>by rw [List.length_set];exact h v (by simp [hv])),Int.toNat_natCast,T4 _ _ _ _ hi];by_cases e:j=i
  ·subst e;simp
  ·rw [if_neg e]
   have:((j:Int)∈((i:Int)::us))↔((j:Int)∈us):=by
    rw [List.mem_cons]
    constructor
    ·rintro (h|h)
     ·omega
     ·exact h
    ·exact Or.inr
   rw [decide_eq_decide.2 this]
end
section
open Go Go.RowKit
theorem R1(V:World):(binOp .eql 35 (.slice none 0 0) (.slice none 0 0)).run Tryz.prog V=.ok (.bool true) V:=by kernel_rfl
theorem P6(g n c:Nat)(V:World):(binOp .eql 35 (.slice (some ⟨g,0,none⟩) n c) (.slice none 0 0)).run Tryz.prog V=.ok (.bool false) V:=by kernel_rfl
theorem Uj(s:Ls)(f:Nm→Int)(B E:Nat)(w W:World)(hs:RgS s f B w)(hb:Below w.heap.size w W)(ds:List Deferred)(Q:Exit→Act→World→Prop)
  (hN:decide (CW ⟨s.bars,s.tempos,s.pauses,s.spans⟩=0)=true→∀(x0 x3 x4 x5 x6 x7 x8 x9 bl bm bn bo bp bq br bs bt bu bv bw bx bz bA bB bC bD bE bF bG bH bI bJ bK bL bM bN bO bP bQ bR bS bT bU bV bW bX bY bZ ca cb cc cd ce cf cg ch ci cj ck cm cn co cp cq cr cs ct cu cv cw cx cy cz cA cB cC cD cE cF cG cH cI cJ cK cL cM cN cO cP cQ cR cS cT cU cV cW cX cY cZ da db dc dd de df dg dh di dj dk dl dm dn dp dq dr dt du dv dw:Value) (V:World),Below w.heap.size w V→Q .normal { tmps:=#[x0,.pointer (some ⟨B,0,none⟩),.pointer (some ⟨E,0,none⟩),x3,x4,x5,x6,x7,x8,x9,bl,bm,bn,bo,bp,bq,br,bs,bt,bu,bv,bw,bx,bz,bA,bB,bC,bD,bE,bF,bG,bH,bI,bJ,bK,bL,bM,bN,bO,bP,bQ,bR,bS,bT,bU,bV,bW,bX,bY,bZ,ca,cb,cc,cd,ce,cf,cg,ch,ci,cj,ck,cm,cn,co,cp,cq,cr,cs,ct,cu,cv,cw,cx,cy,cz,cA,cB,cC,cD,cE,cF,cG,cH,cI,cJ,cK,cL,cM,cN,cO,cP,cQ,cR,cS,cT,cU,cV,cW,cX,cY,cZ,da,db,dc,dd,de,df,dg,dh,di,dj,dk,dl,dm,dn,dp,dq,dr,dt,du,dv,dw],defers:=ds } V)
  (hP:decide (CW ⟨s.bars,s.tempos,s.pauses,s.spans⟩=0)=false→∀(t:Array Value) (V:World),t.getD 2 undef=.pointer (some ⟨E,0,none⟩)→Below w.heap.size w V→Q (.panic BU) { tmps:=t,defers:=ds } V) :
  elem29n6.wp Tryz.prog Q { tmps:=#[e0,.pointer (some ⟨B,0,none⟩),.pointer (some ⟨E,0,none⟩),e3,e4,e5,e6,e7,e8,e9,ea,eb,ec,ed,ee,ef,eg,eh,ei,ej,ek,el,em,en,eo,ep,eq,er,es,et,eu,ev,ew,ex,ey,ez,eA,eB,eC,eD,eE,eF,eG,eH,eI,eJ,eK,eL,eM,eN,eO,eP,eQ,eR,eS,eT,eU,eV,eW,eX,eY,eZ,aa,ab,ac,ae,af,ag,ah,ai,aj,ak,al,am,an,ao,ap,aq,ar,au,av,aw,ax,ay,az,aA,aB,aC,aD,aE,aF,aG,aH,aI,aJ,aK,aL,aM,aN,aO,aP,aQ,aR,aS,aT,aU,aV,aW,aX,aY,aZ,ba,bb,bc,bd,be,bf,bg,bh,bi,bj,bk],defers:=ds } W:=by
 have hS:=hs.below hb;have y1:W.cell? ⟨B,3,none⟩=some (int i64 s.bars):=Aa hS.box 3 rfl;have y2:W.cell? ⟨B,7,none⟩=some (.slice s.ta s.tempos.length s.tc):=Aa hS.box 7 rfl;have y3:W.cell? ⟨B,8,none⟩=some (.slice s.ua s.pauses.length s.uc):=Aa hS.box 8 rfl;have y4:W.cell? ⟨B,9,none⟩=some (.slice s.sa s.spans.length s.sc):=Aa hS.box 9 rfl;have C:=Ml s.bars s.ta s.ua s.sa s.tc s.uc s.sc s.tempos s.pauses s.spans W hS.at_.tempos hS.at_.pauses hS.at_.spans;have HN:=qh hN;have HP:=qh hP;have HB:=qh hb;obtain ⟨c,hc⟩:∃c,CW ⟨s.bars,s.tempos,s.pauses,s.spans⟩=c:=⟨_,rfl⟩;rw [hc] at C;have HC:=qh C;have HK:=qh hc;clear hN hP hb hS hs C hc
 conv=>arg 2;whnf
 by_cases hz:c=0
 ·subst hz
  have HD:Hid (decide (CW ⟨s.bars,s.tempos,s.pauses,s.spans⟩=0)=true):=qh (decide_eq_true HK.out)
  go_wp2_with (first|(go_at_call 21;refine HC.out.mono ?_;rintro e V ⟨rfl,hv⟩;have HV:=qh hv;clear hv)|(first|(go_at_call 20;refine (CK (by assumption) _).mono ?_;rintro e w2 ⟨rfl,rfl⟩)|(go_at_call 19;first|(refine (Au _).mono ?_;rintro e w2 ⟨rfl,rfl⟩)|(refine (Am _).mono ?_;unfold Aj;rintro e w2 ⟨rfl,rfl⟩))));exact HN.out HD.out _ _ _ _ _ _ _ _ _ _ _ _ _ _ _ _ _ _ _ _ _ _ _ _ _ _ _ _ _ _ _ _ _ _ _ _ _ _ _ _ _ _ _ _ _ _ _ _ _ _ _ _ _ _ _ _ _ _ _ _ _ _ _ _ _ _ _ _ _ _ _ _ _ _ _ _ _ _ _ _ _ _ _ _ _ _ _ _ _ _ _ _ _ _ _ _ _ _ _ _ _ _ _ _ _ _ _ _ _ _ _ _ _ _ _ _ _ _ _ _ _ (Ad HB.out HV.out)
 ·have HD:Hid (decide (CW ⟨s.bars,s.tempos,s.pauses,s.spans⟩=0)=false):=qh (decide_eq_false (by rw [HK.out];exact hz))
  go_wp2_with (first|(go_at_call 19;refine (BW (by simpa using hz) _).mono ?_;unfold Aj;rintro e w2 ⟨rfl,rfl⟩)|(go_at_call 21;refine HC.out.mono ?_;rintro e V ⟨rfl,hv⟩;have HV:=qh hv;clear hv)|(first|(go_at_call 20;refine (CK (by assumption) _).mono ?_;rintro e w2 ⟨rfl,rfl⟩)|(go_at_call 19;first|(refine (Au _).mono ?_;rintro e w2 ⟨rfl,rfl⟩)|(refine (Am _).mono ?_;unfold Aj;rintro e w2 ⟨rfl,rfl⟩))));exact HP.out HD.out _ _ rfl (Ad HB.out HV.out)
theorem Uk(s:Ls)(f:Nm→Int)(B E:Nat)(w W:World)(hs:RgS s f B w)(hb:Below w.heap.size w W)(_hl:s.phrases.length≤100000)(ds:List Deferred)(Q:Exit→Act→World→Prop)
  (hN:s.phrases.all (λp=>p.its.strip.exB)=true→∀(x0 x3 x4 x5 x6 x7 x8 x9 bl bm bn bo bp bq br bs bt bu bv bw bx bz bA bB bC bD bE bF bG bH bI bJ bK bL bM bN bO bP bQ bR bS bT bU bV bW bX bY bZ ca cb cc cd ce cf cg ch ci cj ck cm cn co cp cq cr cs ct cu cv cw cx cy cz cA cB cC cD cE cF cG cH cI cJ cK cL cM cN cO cP cQ cR cS cT cU cV cW cX cY cZ da db dc dd de df dg dh di dj dk dl dm dn dp dq dr dt du dv dw:Value) (V:World),Below w.heap.size w V→Q .normal { tmps:=#[x0,.pointer (some ⟨B,0,none⟩),.pointer (some ⟨E,0,none⟩),x3,x4,x5,x6,x7,x8,x9,bl,bm,bn,bo,bp,bq,br,bs,bt,bu,bv,bw,bx,bz,bA,bB,bC,bD,bE,bF,bG,bH,bI,bJ,bK,bL,bM,bN,bO,bP,bQ,bR,bS,bT,bU,bV,bW,bX,bY,bZ,ca,cb,cc,cd,ce,cf,cg,ch,ci,cj,ck,cm,cn,co,cp,cq,cr,cs,ct,cu,cv,cw,cx,cy,cz,cA,cB,cC,cD,cE,cF,cG,cH,cI,cJ,cK,cL,cM,cN,cO,cP,cQ,cR,cS,cT,cU,cV,cW,cX,cY,cZ,da,db,dc,dd,de,df,dg,dh,di,dj,dk,dl,dm,dn,dp,dq,dr,dt,du,dv,dw],defers:=ds } V)
  (hP:s.phrases.all (λp=>p.its.strip.exB)=false→∀(t:Array Value) (V:World),t.getD 2 undef=.pointer (some ⟨E,0,none⟩)→Below w.heap.size w V→Q (.panic BU) { tmps:=t,defers:=ds } V) :
  elem29n7.wp Tryz.prog Q { tmps:=#[e0,.pointer (some ⟨B,0,none⟩),.pointer (some ⟨E,0,none⟩),e3,e4,e5,e6,e7,e8,e9,ea,eb,ec,ed,ee,ef,eg,eh,ei,ej,ek,el,em,en,eo,ep,eq,er,es,et,eu,ev,ew,ex,ey,ez,eA,eB,eC,eD,eE,eF,eG,eH,eI,eJ,eK,eL,eM,eN,eO,eP,eQ,eR,eS,eT,eU,eV,eW,eX,eY,eZ,aa,ab,ac,ae,af,ag,ah,ai,aj,ak,al,am,an,ao,ap,aq,ar,au,av,aw,ax,ay,az,aA,aB,aC,aD,aE,aF,aG,aH,aI,aJ,aK,aL,aM,aN,aO,aP,aQ,aR,aS,aT,aU,aV,aW,aX,aY,aZ,ba,bb,bc,bd,be,bf,bg,bh,bi,bj,bk],defers:=ds } W:=by
 have hS:=hs.below hb;have y6:W.cell? ⟨B,10,none⟩=some (.slice s.fa s.phrases.length s.fc):=Aa hS.box 10 rfl;have HN:=qh hN;have HP:=qh hP;have HB:=qh hb;have HS:=qh hs;clear hN hP hb hS hs;generalize hn:s.phrases.length=n at *;have hF:=qh hn;clear hn
 conv=>arg 2;whnf
 go_wp2_with fail;go_loopw [80] (λiv wr=>∃i:Nat,iv=int i64 i∧i≤n∧Hid (∀p∈s.phrases.take i,p.its.strip.exB=true)∧Hid (Below w.heap.size w wr)) (λiv _=>n+1-(intOf iv).toNat)
 case atStart=>exact ⟨0,rfl,Nat.zero_le _,qh (by simp),HB⟩
 case round =>
  obtain ⟨i,rfl,hQ,hG,hB⟩:=hrel;by_cases hK:i<n
  ·have hi:(i:Int)<(n:Int):=by omega
   obtain ⟨p,hp⟩:∃p,s.phrases[i]?=some p:=⟨_,qg (by rw [hF.out];exact hK)⟩;have hD:=HS.out.below hB.out;obtain ⟨c0,c1⟩:=Cm hD.at_.phrases hp;have hL:=hD.at_.pform.resolve_left (λe=>by rw [e] at hp;cases hp);obtain ⟨W2,hR,gW2,bW2,sW2⟩:=Ag wr #[sv p.name,.slice p.ia p.its.len p.ic] 51;have hE:=hD.below bW2;obtain ⟨i1,i2,i3⟩:=Df hE.at_.phrases hp;have hC:NumAt f W2 (p.its.refsL (blk p.ia) (off p.ia)):=λx hx=>hE.nums x (Dr hp hx)
   obtain ⟨ns,hH⟩:=hC.ns;have C:=P7 _ p.its (qn _) p.ia p.ic ns W2 i1 i2 i3 hH;have z1:=Aa gW2 1 rfl;unfold Ph.val at c1;have HX:=qh hp;have hI:=qh (Ad hB.out bW2);have HC:=qh C;generalize hJ:s.fa=fa at *;have hT:=qh hJ;clear hJ;generalize hM:blk fa=fb at *;generalize hO:off fa=fo at *;subst hL;clear hM hO hp hD hE gW2 bW2 sW2 i1 i2 i3 hC hH C
   go_wp2_with (go_at_call 22;refine HC.out.mono ?_;intro e V he;rcases LF he with ⟨h1,rfl,hb⟩|⟨h1,rfl,hb⟩<;>clear he)
   ·have HV:=qh (Ad hI.out hb);have H1:=qh h1
    clear hb h1;go_roundw
    case rel=>exact ⟨i+1,by go_num,by omega,qh (Dt hG.out HX.out H1.out),HV⟩
    case measure=>simp [intOf];omega
   ·have hA:s.phrases.all (λp=>p.its.strip.exB)=false:=by
     rw [← Bool.not_eq_true,List.all_eq_true];intro h;have:=h p (List.mem_of_getElem? HX.out);rw [h1] at this;cases this
    exact HP.out hA _ _ rfl (Ad hI.out hb)
  ·have:i=n:=by omega
   subst this;have hz:¬(i:Int)<(i:Int):=by omega
   have hA:s.phrases.all (λp=>p.its.strip.exB)=true:=List.all_eq_true.2 (λx hx=>hG.out x (by rw [List.take_of_length_le (by rw [hF.out];exact qn _)];exact hx));have HC:=qh hA;clear hA;go_wp2_with fail;exact HN.out HC.out _ _ _ _ _ _ _ _ _ _ _ _ _ _ _ _ _ _ _ _ _ _ _ _ _ _ _ _ _ _ _ _ _ _ _ _ _ _ _ _ _ _ _ _ _ _ _ _ _ _ _ _ _ _ _ _ _ _ _ _ _ _ _ _ _ _ _ _ _ _ _ _ _ _ _ _ _ _ _ _ _ _ _ _ _ _ _ _ _ _ _ _ _ _ _ _ _ _ _ _ _ _ _ _ _ _ _ _ _ _ _ _ _ _ _ _ _ _ _ _ _ hB.out
theorem Ul(s:Ls)(f:Nm→Int)(B E:Nat)(w W:World)(hs:RgS s f B w)(hb:Below w.heap.size w W)(hl:s.phrases.length≤999)(ds:List Deferred)(Q:Exit→Act→World→Prop)
  (hN:decide (Bq (s.nexts f)=[])=true→∀(x0 x3 x4 x5 x6 x7 x8 x9 bl bm bn bo bp bq br bs bt bu bv bw bx bz bA bB bC bD bE bF bG bH bI bJ bK bL bM bN bO bP bQ bR bS bT bU bV bW bX bY bZ ca cb cc cd ce cf cg ch ci cj ck cm cn co cp cq cr cs ct cu cv cw cx cy cz cA cB cC cD cE cF cG cH cI cJ cK cL cM cN cO cP cQ cR cS cT cU cV cW cX cY cZ da db dc dd de df dg dh di dj dk dl dm dn dp dq dr dt du dv dw:Value) (V:World),Below w.heap.size w V→Q .normal { tmps:=#[x0,.pointer (some ⟨B,0,none⟩),.pointer (some ⟨E,0,none⟩),x3,x4,x5,x6,x7,x8,x9,bl,bm,bn,bo,bp,bq,br,bs,bt,bu,bv,bw,bx,bz,bA,bB,bC,bD,bE,bF,bG,bH,bI,bJ,bK,bL,bM,bN,bO,bP,bQ,bR,bS,bT,bU,bV,bW,bX,bY,bZ,ca,cb,cc,cd,ce,cf,cg,ch,ci,cj,ck,cm,cn,co,cp,cq,cr,cs,ct,cu,cv,cw,cx,cy,cz,cA,cB,cC,cD,cE,cF,cG,cH,cI,cJ,cK,cL,cM,cN,cO,cP,cQ,cR,cS,cT,cU,cV,cW,cX,cY,cZ,da,db,dc,dd,de,df,dg,dh,di,dj,dk,dl,dm,dn,dp,dq,dr,dt,du,dv,dw],defers:=ds } V)
  (hP:decide (Bq (s.nexts f)=[])=false→∀(t:Array Value) (V:World),t.getD 2 undef=.pointer (some ⟨E,0,none⟩)→Below w.heap.size w V→Q (.panic BU) { tmps:=t,defers:=ds } V) :
  elem29n8.wp Tryz.prog Q { tmps:=#[e0,.pointer (some ⟨B,0,none⟩),.pointer (some ⟨E,0,none⟩),e3,e4,e5,e6,e7,e8,e9,ea,eb,ec,ed,ee,ef,eg,eh,ei,ej,ek,el,em,en,eo,ep,eq,er,es,et,eu,ev,ew,ex,ey,ez,eA,eB,eC,eD,eE,eF,eG,eH,eI,eJ,eK,eL,eM,eN,eO,eP,eQ,eR,eS,eT,eU,eV,eW,eX,eY,eZ,aa,ab,ac,ae,af,ag,ah,ai,aj,ak,al,am,an,ao,ap,aq,ar,au,av,aw,ax,ay,az,aA,aB,aC,aD,aE,aF,aG,aH,aI,aJ,aK,aL,aM,aN,aO,aP,aQ,aR,aS,aT,aU,aV,aW,aX,aY,aZ,ba,bb,bc,bd,be,bf,bg,bh,bi,bj,bk],defers:=ds } W:=by
 have hS:=hs.below hb;have C:=L2 s f W hS.at_ hS.nums hl;have HN:=qh hN;have HP:=qh hP;have HB:=qh hb;have HC:=qh C;have HX:=qh hS.box;clear hN hP hb hS hs C
 conv=>arg 2;whnf
 have hB:=R1;have hC:=P6;have st0:True:=trivial;by_cases hz:Bq (s.nexts f)=[]
 ·have HD:Hid (decide (Bq (s.nexts f)=[])=true):=qh (decide_eq_true hz)
  go_wp2_with (first|(have q:=st0;clear q st0;(refine wpList_load_row rfl 30 _ rfl B rfl 30 s.cells (0,0) _ HX.out Tryz.underlying30 rfl (by kernel_rfl) ?_;simp only [Act.put,qD,qE,qF]))|(go_at_call 23;refine HC.out.mono ?_;rintro e V ⟨v,rfl,hv,hr⟩;rcases hr with ⟨_,rfl⟩|⟨g,cap,rfl,hA,_⟩;rotate_left;exact absurd hz hA;have HV:=qh hv;clear hv)|(first|(go_at_call 20;refine (CK (by assumption) _).mono ?_;rintro e w2 ⟨rfl,rfl⟩)|(go_at_call 19;first|(refine (Au _).mono ?_;rintro e w2 ⟨rfl,rfl⟩)|(refine (Am _).mono ?_;unfold Aj;rintro e w2 ⟨rfl,rfl⟩))));exact HN.out HD.out _ _ _ _ _ _ _ _ _ _ _ _ _ _ _ _ _ _ _ _ _ _ _ _ _ _ _ _ _ _ _ _ _ _ _ _ _ _ _ _ _ _ _ _ _ _ _ _ _ _ _ _ _ _ _ _ _ _ _ _ _ _ _ _ _ _ _ _ _ _ _ _ _ _ _ _ _ _ _ _ _ _ _ _ _ _ _ _ _ _ _ _ _ _ _ _ _ _ _ _ _ _ _ _ _ _ _ _ _ _ _ _ _ _ _ _ _ _ _ _ _ (Ad HB.out HV.out)
 ·have HD:Hid (decide (Bq (s.nexts f)=[])=false):=qh (decide_eq_false hz)
  go_wp2_with (first|(have q:=st0;clear q st0;(refine wpList_load_row rfl 30 _ rfl B rfl 30 s.cells (0,0) _ HX.out Tryz.underlying30 rfl (by kernel_rfl) ?_;simp only [Act.put,qD,qE,qF]))|(go_at_call 23;refine HC.out.mono ?_;rintro e V ⟨v,rfl,hv,hr⟩;rcases hr with ⟨he,_⟩|⟨g,cap,rfl,hA,_⟩;exact absurd he hz;have HV:=qh hv;clear hv)|(first|(go_at_call 20;refine (CK (by assumption) _).mono ?_;rintro e w2 ⟨rfl,rfl⟩)|(go_at_call 19;first|(refine (Au _).mono ?_;rintro e w2 ⟨rfl,rfl⟩)|(refine (Am _).mono ?_;unfold Aj;rintro e w2 ⟨rfl,rfl⟩))));exact HP.out HD.out _ _ rfl (Ad HB.out HV.out)
end
section
open Go
def SD(g g':Int→Option Int)(nn:Int):Prop:=∀x,g' x=g x∨(g x=none∧g' x=some nn)
theorem Pg{g g':Int→Option Int}{nn i:Int}(h:SD g g' nn)(to:Int):DR i nn g' to=DR i nn g to:=by
 unfold DR
 congr 2
 rcases h to with e|⟨e1,e2⟩
 ·rw [e]
 ·rw [e1,e2]
  have h1:¬(some nn=some (nn-1)):=by simp only [Option.some.injEq];omega
  have h2:¬((none:Option Int)=some (nn-1)):=by simp
  rw [decide_eq_false h1,decide_eq_false h2]
theorem Nb{g g':Int→Option Int}{nn i:Int}(h:SD g g' nn)(ks:List Int):CY ks i nn g'=CY ks i nn g:=by
 unfold CY
 congr 1
 funext to
 exact Pg h to
theorem J7(kss:List (List Int))(i nn:Int)(g:Int→Option Int):∀j,SD g (Es kss i nn g j) nn
 | 0=>λx=>Or.inl rfl
 | j+1=>λx=>by
  have ih:=J7 kss i nn g j;unfold Es En
  split
  ·exact ih x
  ·split
   ·rename_i h1 _
    unfold F2
    split
    ·rename_i hx
     subst hx;rcases ih j with e|⟨e1,e2⟩
     ·right
      refine ⟨?_,rfl⟩;rw [← e]
      cases h2:Es kss i nn g j j with
      | none=>rfl
      | some v=>rw [h2] at h1;simp at h1
     ·rw [e2] at h1;simp at h1
    ·exact ih x
   ·exact ih x
theorem GC(kss:List (List Int))(i nn:Int)(g:Int→Option Int):∀(j:Nat) (x:Int),Es kss i nn g j x=if (g x).isSome=true then g x else if 0≤x∧x<j∧CY (kss.getD x.toNat []) i nn g=true then some nn else none
 | 0,x=>by
  unfold Es
  cases h:g x with
  | some v=>simp
  | none =>
   have:¬(0≤x∧x<((0:Nat):Int)∧CY (kss.getD x.toNat []) i nn g=true):=by rintro ⟨h1,h2,_⟩;omega
   rw [if_neg this];simp
 | j+1,x=>by
  have ih:=GC kss i nn g j;have hn:=J7 kss i nn g j;unfold Es En;by_cases hx:x=(j:Int)
  ·subst hx
   have ihj:=ih j;have hA:¬((j:Int)<(j:Nat)):=by omega
   split
   ·rename_i h1
    rw [ihj] at h1 ⊢
    split
    ·rfl
    ·rename_i h2
     rw [if_neg h2,if_neg (λh=>hA h.2.1)] at h1;simp at h1
   ·rename_i h1
    have hB:(g j).isSome=false:=by
     cases h2:(g j).isSome with
     | false=>rfl
     | true=>rw [ihj,if_pos h2,h2] at h1;simp at h1
    rw [Nb hn,hB];simp only [Bool.false_eq_true,if_false]
    have e:(0≤(j:Int)∧(j:Int)<((j+1:Nat):Int)∧CY (kss.getD (j:Int).toNat []) i nn g=true)↔CY (kss.getD j []) i nn g=true:=by
     rw [Int.toNat_natCast];exact ⟨λh=>h.2.2,λh=>⟨by omega,by omega,h⟩⟩
    split
    ·rename_i h3
     rw [if_pos (e.2 h3)];unfold F2;simp
    ·rename_i h3
     rw [ihj,hB];simp only [Bool.false_eq_true,if_false];rw [if_neg (λh=>hA h.2.1),if_neg (λh=>h3 (e.1 h))]
  ·have e:(0≤x∧x<((j+1:Nat):Int)∧CY (kss.getD x.toNat []) i nn g=true)↔(0≤x∧x<((j:Nat):Int)∧CY (kss.getD x.toNat []) i nn g=true) :=
    ⟨λh=>⟨h.1,by have:=h.2.1;omega,h.2.2⟩,λh=>⟨h.1,by have:=h.2.1;omega,h.2.2⟩⟩
   have e2:Es kss i nn g j x=if (g x).isSome=true then g x else if 0≤x∧x<((j+1:Nat):Int)∧CY (kss.getD x.toNat []) i nn g=true then some nn else none:=by
    rw [ih x];simp only [e]
   split
   ·exact e2
   ·split
    ·unfold F2
     rw [if_neg hx];exact e2
    ·exact e2
section
variable {kss:List (List Int)} {i:Int}
theorem EA{m:Nat}{x v:Int}(h:AN kss i m x=some v):AN kss i (m+1) x=some v:=by
 unfold AN;rw [GC,h]
 rfl
theorem GQ{x v:Int}{m k:Nat}(hk:m≤k)(h:AN kss i m x=some v):AN kss i k x=some v:=by
 induction k with
 | zero=>rw [show (0:Nat)=m by omega];exact h
 | succ k ih =>
  rcases Nat.lt_or_ge m (k+1) with h1|h1
  ·exact EA (ih (by omega))
  ·rw [show k+1=m by omega];exact h
theorem E5{m:Nat}{x v:Int}(h:AN kss i (m+1) x=some v):AN kss i m x=some v∨(AN kss i m x=none∧v=(m+1:Nat)∧0≤x∧x<kss.length∧CY (kss.getD x.toNat []) i (m+1:Nat) (AN kss i m)=true):=by
 unfold AN at h;rw [GC] at h
 cases hg:AN kss i m x with
 | some u=>rw [hg] at h;left;simpa using h
 | none =>
  rw [hg] at h;simp only [Option.isSome_none,Bool.false_eq_true,if_false] at h
  split at h
  ·rename_i hc
   right
   cases h;exact ⟨rfl,rfl,hc⟩
  ·cases h
theorem MA{m:Nat}{x v:Int}:AN kss i m x=some v→0≤x∧x<kss.length:=by
 induction m with
 | zero=>intro h;cases h
 | succ m ih =>
  intro h;rcases E5 h with h|⟨_,_,h1,h2,_⟩
  ·exact ih h
  ·exact ⟨h1,h2⟩
theorem P9{m:Nat}{x:Int}(h0:0≤x)(h1:x<kss.length)(h:CY (kss.getD x.toNat []) i (m+1:Nat) (AN kss i m)=true):(AN kss i (m+1) x).isSome=true:=by
 unfold AN;rw [GC]
 cases hg:AN kss i m x with
 | some u=>rfl
 | none =>
  simp only [Option.isSome_none,Bool.false_eq_true,if_false];rw [if_pos ⟨h0,h1,h⟩]
  rfl
def Lv(kss:List (List Int))(i:Int)(m:Nat):Prop:=∃x,AN kss i m x=some (m:Int)
theorem Lv.down{m:Nat}(hm:1≤m)(h:Lv kss i (m+1)):Lv kss i m:=by
 obtain ⟨x,hx⟩:=h;rcases E5 hx with h|⟨_,_,_,_,h⟩
 ·have:=D6 h;omega
 ·unfold CY at h
  rw [List.any_eq_true] at h;obtain ⟨to,_,hA⟩:=h;unfold DR at hA;rw [Bool.or_eq_true,Bool.and_eq_true,Bool.and_eq_true] at hA;rcases hA with ⟨h1,_⟩|⟨_,h2⟩
  ·have:=of_decide_eq_true h1;omega
  ·have:=of_decide_eq_true h2
   exact ⟨to,by rw [this];congr 1;omega⟩
def cnt(kss:List (List Int))(i:Int)(m:Nat):Nat:=((List.range kss.length).filter λx:Nat=>(AN kss i m x).isSome).length
theorem SL(m:Nat):cnt kss i m≤kss.length:=by
 unfold cnt;exact Nat.le_trans (List.length_filter_le _ _) (by simp)
theorem Lv.count:∀{m:Nat},Lv kss i m→m≤cnt kss i m
 | 0,_=>Nat.zero_le _
 | m+1,h=>by
  have hm:m≤cnt kss i m:=by
   rcases Nat.eq_zero_or_pos m with e|e
   ·omega
   ·exact Lv.count (h.down e)
  obtain ⟨x,hx⟩:=h;obtain ⟨h0,h1⟩:=MA hx;obtain ⟨a,rfl⟩:∃a:Nat,x=a:=⟨x.toNat,by omega⟩
  have hA:(AN kss i m a).isSome=false:=by
   cases hg:AN kss i m a with
   | none=>rfl
   | some u =>
    have:=D6 hg;rw [EA hg] at hx;cases hx;omega
  have:=filter_lt (λx:Nat=>(AN kss i (m+1) x).isSome) (λx:Nat=>(AN kss i m x).isSome) (λy hy=>by
   cases hg:AN kss i m y with
   | none=>rw [hg] at hy;cases hy
   | some u=>rw [EA hg];rfl) a (by rw [hx];rfl) hA (List.range kss.length) (by simp;omega)
  unfold cnt at hm ⊢;omega
theorem Pa(x:Int):AN kss i (kss.length+1) x=AN kss i kss.length x:=by
 cases h:AN kss i (kss.length+1) x with
 | none =>
  cases h2:AN kss i kss.length x with
  | none=>rfl
  | some v=>rw [EA h2] at h;cases h
 | some v =>
  rcases E5 h with h2|⟨_,hv,_⟩
  ·exact h2.symm
  ·exfalso
   have hl:Lv kss i (kss.length+1):=⟨x,by rw [h,hv]⟩;have:=hl.count;have:=SL (kss:=kss) (i:=i) (kss.length+1);omega
theorem KC{x u:Int}(h0:0≤x)(h1:x<kss.length)(hu:u∈kss.getD x.toNat [])(h:u=i∨(AN kss i kss.length u).isSome=true):(AN kss i kss.length x).isSome=true:=by
 have key:∀m:Nat,m≤kss.length→CY (kss.getD x.toNat []) i (m+1:Nat) (AN kss i m)=true→(AN kss i kss.length x).isSome=true:=by
  intro m hm hh;have h2:=P9 h0 h1 hh;rw [← Pa]
  cases hg:AN kss i (m+1) x with
  | none=>rw [hg] at h2;cases h2
  | some v=>rw [GQ (by omega) hg];rfl
 rcases h with rfl|h
 ·refine key 0 (Nat.zero_le _) ?_
  unfold CY;rw [List.any_eq_true];exact ⟨u,hu,by unfold DR;simp⟩
 ·cases hg:AN kss i kss.length u with
  | none=>rw [hg] at h;cases h
  | some v =>
   obtain ⟨hA,hB⟩:=D6 hg;obtain ⟨d,rfl⟩:∃d:Nat,v=d:=⟨v.toNat,by omega⟩
   have hd:AN kss i d u=some (d:Int):=by
    have:∀k:Nat,AN kss i k u=some (d:Int)→d≤k→AN kss i d u=some (d:Int):=by
     intro k
     induction k with
     | zero=>intro h;cases h
     | succ k ih =>
      intro h hk;rcases Nat.lt_or_ge d (k+1) with h3|h3
      ·rcases E5 h with h4|⟨_,h4,_⟩
       ·exact ih h4 (by omega)
       ·omega
      ·rw [show d=k+1 by omega] at h ⊢;exact h
    exact this _ hg (by omega)
   refine key d (by omega) ?_;unfold CY;rw [List.any_eq_true];refine ⟨u,hu,?_⟩;unfold DR;rw [hd];have e1:decide (1<((d+1:Nat):Int))=true:=decide_eq_true (by omega);have e2:decide ((some (d:Int))=some (((d+1:Nat):Int)-1))=true:=decide_eq_true (by congr 1;omega);rw [e1,e2];simp
end
def DB(kss:List (List Int))(j:Nat):Nat:=((List.range kss.length).filter λi:Nat=>(AN kss i kss.length j).isSome).length
theorem Jt{kss:List (List Int)}(h:Bq kss=[]){i:Nat}(hi:i<kss.length):AN kss i kss.length i=none:=by
 unfold Bq at h
 split at h
 ·rename_i hf
  rw [List.find?_eq_none] at hf;have:=hf i (by simpa using hi);unfold D3 at this
  cases hg:AN kss i kss.length i with
  | none=>rfl
  | some v=>rw [hg] at this;simp at this
 ·cases h
theorem Nu{kss:List (List Int)}(h:Bq kss=[]){j u:Nat}(hj:j<kss.length)(hu:u<kss.length)(hm:(u:Int)∈kss.getD j []):DB kss u<DB kss j:=by
 unfold DB;refine filter_lt (λi:Nat=>(AN kss i kss.length j).isSome) (λi:Nat=>(AN kss i kss.length u).isSome) (λi hi=>?_) u ?_ ?_ _ (by simpa using hu)
 ·exact KC (by omega) (by omega) (by rw [Int.toNat_natCast];exact hm) (Or.inr hi)
 ·exact KC (by omega) (by omega) (by rw [Int.toNat_natCast];exact hm) (Or.inl rfl)
 ·show (AN kss u kss.length u).isSome=false
  rw [Jt h hu];rfl
theorem MO{kss:List (List Int)}(h:Bq kss=[]){j:Nat}(hj:j<kss.length):DB kss j<kss.length:=by
 unfold DB;have:=filter_lt (λ_:Nat=>true) (λi:Nat=>(AN kss i kss.length j).isSome) (λ_ _=>rfl) j rfl (by rw [Jt h hj];rfl) (List.range kss.length) (by simpa using hj);have e:(List.range kss.length).filter (λ_:Nat=>true)=List.range kss.length:=List.filter_eq_self.2 (λ_ _=>rfl);rw [e,List.length_range] at this;exact this
end
section
open Go
theorem E6(x:Int):∀(us ks:List Int),x∈us.foldl B9 ks↔x∈ks∨x∈us
 | [],ks=>by simp
 | u::us,ks=>by
  rw [List.foldl_cons,E6 x us,Mi];simp only [List.mem_cons]
  constructor
  ·rintro ((h|h)|h)
   ·exact Or.inl h
   ·exact Or.inr (Or.inl h)
   ·exact Or.inr (Or.inr h)
  ·rintro (h|h|h)
   ·exact Or.inl (Or.inl h)
   ·exact Or.inl (Or.inr h)
   ·exact Or.inr h
theorem Its.sumF_congr(f:Nm→Int)(F G:Int→Int):∀(T:Its) (n:Int),(∀u∈T.uses f,F u=G u)→T.sumF f F n=T.sumF f G n
 | .nil,_,_=>rfl
 | .cons k nn un its ms r,n,h=>by
  unfold Its.sumF;rw [its.sumF_congr f F G 0 (λu hu=>h u (by simp [Its.uses,hu]))]
  have e:(if k=4 then F (f un) else 0)=if k=4 then G (f un) else 0:=by
   split
   ·rename_i hk
    exact h (f un) (by simp [Its.uses,hk])
   ·rfl
  rw [e];exact r.sumF_congr f F G _ (λu hu=>h u (by simp [Its.uses,hu]))
def GX(L:List Its)(f:Nm→Int):Nat→Int→Int
 | 0,_=>0
 | d+1,k=>if 0≤k then (match L[k.toNat]? with
  | some t=>t.sumF f (GX L f d) 0
  | none=>0) else 0
def BF(L:List Its)(f:Nm→Int):Int→Int:=GX L f L.length
theorem Fh{L:List Its}{f:Nm→Int}{d j:Nat}{t:Its}(h:L[j]?=some t):GX L f (d+1) j=t.sumF f (GX L f d) 0:=by
 unfold GX;rw [if_pos (by omega),Int.toNat_natCast,h]
theorem Nk{L:List Its}{f:Nm→Int}{rk:Nat→Nat}(hd:∀(j:Nat) (t:Its),L[j]?=some t→∀u∈t.uses f,∃i:Nat,u=i∧i<L.length∧rk i<rk j):∀(z j d d':Nat),rk j≤z→rk j<d→rk j<d'→j<L.length→GX L f d j=GX L f d' j:=by
 intro z
 induction z with
 | zero =>
  intro j d d' hz h1 h2 hj;obtain ⟨t,ht⟩:∃t,L[j]?=some t:=⟨_,qg hj⟩;obtain ⟨d,rfl⟩:∃e,d=e+1:=⟨d-1,by omega⟩;obtain ⟨d',rfl⟩:∃e,d'=e+1:=⟨d'-1,by omega⟩;rw [Fh ht,Fh ht];exact t.sumF_congr f _ _ 0 (λu hu=>by obtain ⟨i,rfl,hi,hr⟩:=hd j t ht u hu;omega)
 | succ z ih =>
  intro j d d' hz h1 h2 hj;obtain ⟨t,ht⟩:∃t,L[j]?=some t:=⟨_,qg hj⟩;obtain ⟨d,rfl⟩:∃e,d=e+1:=⟨d-1,by omega⟩;obtain ⟨d',rfl⟩:∃e,d'=e+1:=⟨d'-1,by omega⟩;rw [Fh ht,Fh ht]
  exact t.sumF_congr f _ _ 0 (λu hu=>by
   obtain ⟨i,rfl,hi,hr⟩:=hd j t ht u hu
   exact ih i d d' (by omega) (by omega) (by omega) hi)
theorem GY{L:List Its}{f:Nm→Int}(hx:∀t∈L,t.exB=true):∀(d:Nat) (k:Int),0≤GX L f d k∧GX L f d k≤4097
 | 0,_=>by unfold GX;omega
 | d+1,k=>by
  unfold GX
  split
  ·cases h:L[k.toNat]? with
   | none=>simp
   | some t=>exact t.sumF_bound f _ 0 (hx t (List.mem_of_getElem? h)) (λu _=>GY hx d u) (by omega) (by omega)
  ·omega
def Ls.itsL(s:Ls):List Its:=s.phrases.map λp=>p.its.strip
def FI(L:List Its)(f:Nm→Int):Prop:=∀t∈L,∀u∈t.uses f,∃i:Nat,u=i∧i<L.length
theorem E7{s:Ls}{f:Nm→Int}{j:Nat}{p:Ph}(h:s.phrases[j]?=some p):(s.nexts f).getD j []=(p.its.strip.uses f).foldl B9 []:=by
 unfold Ls.nexts;rw [List.getD_eq_getElem?_getD,List.getElem?_map,h];rfl
theorem LM{s:Ls}{f:Nm→Int}(hx:s.phrases.all (λp=>p.its.strip.exB)=true)(hr:Bq (s.nexts f)=[])(hu:FI s.itsL f):LenOk s.phrases f (DB (s.nexts f)) (BF s.itsL f):=by
 have hD:∀p∈s.phrases,p.its.strip.exB=true:=List.all_eq_true.1 hx
 have hC:∀t∈s.itsL,t.exB=true:=λt ht=>by
  obtain ⟨p,hp,rfl⟩:=List.mem_map.1 ht;exact hD p hp
 have hl:s.itsL.length=s.phrases.length:=by simp [Ls.itsL]
 have hk:(s.nexts f).length=s.phrases.length:=by simp [Ls.nexts]
 have hB:∀(j:Nat) (p:Ph),s.phrases[j]?=some p→s.itsL[j]?=some p.its.strip:=λj p h=>by unfold Ls.itsL;rw [List.getElem?_map,h];rfl
 have hA:∀(j:Nat) (p:Ph),s.phrases[j]?=some p→∀u∈p.its.strip.uses f,∃i:Nat,u=i∧i<s.phrases.length∧DB (s.nexts f) i<DB (s.nexts f) j:=λj p h u hm=>by
  obtain ⟨i,rfl,hi⟩:=hu _ (List.mem_of_getElem? (hB j p h)) u hm;rw [hl] at hi;have hj:=(ql.1 h).1;refine ⟨i,rfl,hi,Nu hr (by rw [hk];exact hj) (by rw [hk];exact hi) ?_⟩;rw [E7 h,E6];exact Or.inr hm
 have hE:∀(j:Nat) (t:Its),s.itsL[j]?=some t→∀u∈t.uses f,∃i:Nat,u=i∧i<s.itsL.length∧DB (s.nexts f) i<DB (s.nexts f) j:=λj t h u hm=>by
  have hj:=(ql.1 h).1;obtain ⟨p,hp⟩:∃p,s.phrases[j]?=some p:=⟨_,qg (by rw [← hl];exact hj)⟩;have:=hB j p hp;rw [h] at this;cases this;rw [hl];exact hA j p hp u hm
 refine ⟨λj p h=>hD p (List.mem_of_getElem? h),λj p h=>?_,λj _=>GY hC _ _,hA⟩;have hj:=(ql.1 h).1
 have hF:∀i,i<s.phrases.length→DB (s.nexts f) i<s.phrases.length:=λi hi=>by
  have:=MO hr (j:=i) (by rw [hk];exact hi)
  rwa [hk] at this
 unfold BF;obtain ⟨e,he⟩:∃e,s.itsL.length=e+1:=⟨s.itsL.length-1,by omega⟩;rw [he,Fh (hB j p h)];refine Its.sumF_congr f _ _ _ 0 (λu hm=>?_);obtain ⟨i,rfl,hi,hG⟩:=hA j p h u hm;have:=hF j hj;exact Nk hE _ i e (e+1) (qn _) (by omega) (by omega) (by omega)
end
section
open Go Go.RowKit
abbrev KL(KB SB B:Nat):Value:=.func (.func 44) #[] #[.pointer (some ⟨KB,0,none⟩),.pointer (some ⟨SB,0,none⟩),.pointer (some ⟨B,0,none⟩)]
theorem Um(s:Ls)(f:Nm→Int)(len:Int→Int)(B E:Nat)(w W:World)(hs:RgS s f B w)(hb:Below w.heap.size w W)(ds:List Deferred)(Q:Exit→Act→World→Prop)
  (hN:∀(B7 KB M SB PB:Nat) (x0 x3 x4 x5 x6 x8 x9 bl bm bn bo bp bq br bs bt bu bv bw bx bz bA bB bC bD bE bF bG bH bI bJ bK bL bM bN bO bP bQ bR bS bT bU bV bW bX bY bZ ca cb cc cd ce cf cg ch ci cj ck cm cn co cp cq cr cs ct cu cv cw cx cy cz cA cB cC cD cE cF cG cH cI cJ cK cL cM cN cO cP cQ cR cS cT cU cV cW cX cY cZ da db dc dd de df dg dh di dj dk dl dm dn dp dq dr dt du dv dw:Value) (V:World),LenW V s f B7 KB M SB PB len→w.heap.size≤M→Below w.heap.size w V→Q .normal { tmps:=#[x0,.pointer (some ⟨B,0,none⟩),.pointer (some ⟨E,0,none⟩),x3,x4,x5,x6,KL KB SB B7,x8,x9,bl,bm,bn,bo,bp,bq,br,bs,bt,bu,bv,bw,bx,bz,bA,bB,bC,bD,bE,bF,bG,bH,bI,bJ,bK,bL,bM,bN,bO,bP,bQ,bR,bS,bT,bU,bV,bW,bX,bY,bZ,ca,cb,cc,cd,ce,cf,cg,ch,ci,cj,ck,cm,cn,co,cp,cq,cr,cs,ct,cu,cv,cw,cx,cy,cz,cA,cB,cC,cD,cE,cF,cG,cH,cI,cJ,cK,cL,cM,cN,cO,cP,cQ,cR,cS,cT,cU,cV,cW,cX,cY,cZ,da,db,dc,dd,de,df,dg,dh,di,dj,dk,dl,dm,dn,dp,dq,dr,dt,du,dv,dw],defers:=ds } V) :
  elem29n9.wp Tryz.prog Q { tmps:=#[e0,.pointer (some ⟨B,0,none⟩),.pointer (some ⟨E,0,none⟩),e3,e4,e5,e6,e7,e8,e9,ea,eb,ec,ed,ee,ef,eg,eh,ei,ej,ek,el,em,en,eo,ep,eq,er,es,et,eu,ev,ew,ex,ey,ez,eA,eB,eC,eD,eE,eF,eG,eH,eI,eJ,eK,eL,eM,eN,eO,eP,eQ,eR,eS,eT,eU,eV,eW,eX,eY,eZ,aa,ab,ac,ae,af,ag,ah,ai,aj,ak,al,am,an,ao,ap,aq,ar,au,av,aw,ax,ay,az,aA,aB,aC,aD,aE,aF,aG,aH,aI,aJ,aK,aL,aM,aN,aO,aP,aQ,aR,aS,aT,aU,aV,aW,aX,aY,aZ,ba,bb,bc,bd,be,bf,bg,bh,bi,bj,bk],defers:=ds } W:=by
 have hS:=hs.below hb;have C:=Gc s f len W hS.at_ hS.nums;have HN:=qh hN;have HB:=qh hb;have HC:=qh C;have HX:=qh hS.box;clear hN hb hS hs C
 conv=>arg 2;whnf
 have st0:True:=trivial
 go_wp2_with (first|(have q:=st0;clear q st0;(refine wpList_load_row rfl 30 _ rfl B rfl 30 s.cells (0,0) _ HX.out Tryz.underlying30 rfl (by kernel_rfl) ?_;simp only [Act.put,qD,qE,qF]))|(go_at_call 24;refine HC.out.mono ?_;rintro e V ⟨B7,KB,M,SB,PB,rfl,h1,h2,h3⟩;have H1:=qh h1;have H2:=qh h2;have H3:=qh h3;clear h1 h2 h3));exact HN.out _ _ _ _ _ _ _ _ _ _ _ _ _ _ _ _ _ _ _ _ _ _ _ _ _ _ _ _ _ _ _ _ _ _ _ _ _ _ _ _ _ _ _ _ _ _ _ _ _ _ _ _ _ _ _ _ _ _ _ _ _ _ _ _ _ _ _ _ _ _ _ _ _ _ _ _ _ _ _ _ _ _ _ _ _ _ _ _ _ _ _ _ _ _ _ _ _ _ _ _ _ _ _ _ _ _ _ _ _ _ _ _ _ _ _ _ _ _ _ _ _ _ _ _ _ H1.out (Nat.le_trans HB.out.size H2.out) (Ad HB.out H3.out)
def Ch(s:Ls)(f:Nm→Int)(len:Int→Int)(d:Dan):Bool:=inB d.bar 0 (s.bars-1)&&decide (d.bar+len (f d.pn)≤s.bars)
theorem FL{f:Nm→Int}{W:World}{b:Nat}:∀{o:Nat} {ds:List Dan} {i:Nat} {d:Dan},Bh W b o ds→NumAt f W (Al b o ds)→ds[i]?=some d→∃u1,W.cell? ⟨b,o+i*6,none⟩=some (sv d.rn)∧W.cell? ⟨b,o+i*6+1,none⟩=some (int i64 u1)∧W.cell? ⟨b,o+i*6+2,none⟩=some (sv d.pn)∧W.cell? ⟨b,o+i*6+3,none⟩=some (int i64 (f d.pn))∧W.cell? ⟨b,o+i*6+4,none⟩=some (int i64 d.bar)∧W.cell? ⟨b,o+i*6+5,none⟩=some (.bool d.mirror)
 | _,[],_,_,_,_,h=>by cases h
 | o,x::r,0,d,⟨⟨h0,h2,h4,h5⟩,_⟩,hn,h=>by
  cases h;obtain ⟨n1,a1,_⟩:=hn ⟨b,o,1,x.rn⟩ (by simp [Al]);obtain ⟨n2,a2,a3⟩:=hn ⟨b,o+2,2,x.pn⟩ (by simp [Al]);rw [a3 rfl] at a2;exact ⟨n1,by simpa using h0,by simpa using a1,by simpa using h2,by simpa using a2,by simpa using h4,by simpa using h5⟩
 | o,x::r,i+1,d,⟨_,hr⟩,hn,h=>by
  have:=FL (i:=i) hr (λy hy=>hn y (by simp [Al,hy])) (by simpa using h);rw [show o+(i+1)*6=o+6+i*6 by omega];exact this
noncomputable def reg23:Code:=match elem29n10 with
 | .seq _ (.block _ (.loop (.seq _ (.seq _ (.seq (.block _ (.seq _ c)) _)))))=>c
 | c=>c
structure DanS(s:Ls)(f:Nm→Int)(len:Int→Int)(B B7 KB M SB PB D:Nat)(bar fj:Int)(w V:World):Prop where
 num:V.cell? ⟨D,3,none⟩=some (int i64 fj)
 bar:V.cell? ⟨D,4,none⟩=some (int i64 bar)
 bars:V.cell? ⟨B,3,none⟩=some (int i64 s.bars)
 lw:LenW V s f B7 KB M SB PB len
 below:Below w.heap.size w V
def DQ(N:Act→World→Prop)(E:Nat)(ds:List Deferred)(ok:Bool)(w:World):Exit→Act→World→Prop
 | .normal,a,V=>N a V
 | .panic c,a,V=>c=BU∧a.tmps.getD 2 undef=.pointer (some ⟨E,0,none⟩)∧a.defers=ds∧ok=false∧Below w.heap.size w V
 | _,_,_=>False
theorem DQ.put{N:Act→World→Prop}{E:Nat}{ds:List Deferred}{ok:Bool}{w:World}{d:Nat}(hd:d≠2){v:Value}:∀(c:List PanicEntry) (a:Act) (V:World),DQ N E ds ok w (.panic c) (a.put (some d) v) V→DQ N E ds ok w (.panic c) a V:=by
 rintro c a V ⟨h1,h2,h3⟩;refine ⟨h1,?_,h3⟩;rw [← h2]
 show a.tmps.getD 2 undef=(a.tmps.setIfInBounds d v).getD 2 undef
 rw [Array.getD_eq_getD_getElem?,Array.getD_eq_getD_getElem?,Array.getElem?_setIfInBounds_ne hd]
theorem QZ(s:Ls)(f:Nm→Int)(len:Int→Int)(B E B7 KB M SB PB D:Nat)(bar fj lj:Int)(w W:World)(hS:DanS s f len B B7 KB M SB PB D bar fj w W)(hB:1≤s.bars∧s.bars≤4096)(hK:0≤lj∧lj≤4097)
  (hC:∀V,DanS s f len B B7 KB M SB PB D bar fj w V→Calls Tryz.prog 44 #[int i64 fj,.pointer (some ⟨KB,0,none⟩),.pointer (some ⟨SB,0,none⟩),.pointer (some ⟨B7,0,none⟩)] V λe V'=>e=.returned (int i64 lj)∧DanS s f len B B7 KB M SB PB D bar fj w V') (ok:Bool) (hH:ok=(inB bar 0 (s.bars-1)&&decide (bar+lj≤s.bars)))
  (ds:List Deferred) (N:Act→World→Prop)
  (hN:ok=true→∀(bl bm bn bo bp bq br bs bt bu bv bw bx bz bA bB bC bD bE bF:Value) (V:World),DanS s f len B B7 KB M SB PB D bar fj w V→N { tmps:=#[e0,.pointer (some ⟨B,0,none⟩),.pointer (some ⟨E,0,none⟩),e3,e4,e5,e6,KL KB SB B7,e8,.pointer (some ⟨D,0,none⟩),ea,eb,ec,ed,ee,ef,eg,eh,ei,ej,ek,el,em,en,eo,ep,eq,er,es,et,eu,ev,ew,ex,ey,ez,eA,eB,eC,eD,eE,eF,eG,eH,eI,eJ,eK,eL,eM,eN,eO,eP,eQ,eR,eS,eT,eU,eV,eW,eX,eY,eZ,aa,ab,ac,ae,af,ag,ah,ai,aj,ak,al,am,an,ao,ap,aq,ar,au,av,aw,ax,ay,az,aA,aB,aC,aD,aE,aF,aG,aH,aI,aJ,aK,aL,aM,aN,aO,aP,bl,bm,bn,bo,bp,bq,br,bs,bt,bu,bv,bw,bx,bz,bA,bB,bC,bD,bE,bF,bk],defers:=ds } V) :
  reg23.wp Tryz.prog (DQ N E ds ok w) { tmps:=#[e0,.pointer (some ⟨B,0,none⟩),.pointer (some ⟨E,0,none⟩),e3,e4,e5,e6,KL KB SB B7,e8,.pointer (some ⟨D,0,none⟩),ea,eb,ec,ed,ee,ef,eg,eh,ei,ej,ek,el,em,en,eo,ep,eq,er,es,et,eu,ev,ew,ex,ey,ez,eA,eB,eC,eD,eE,eF,eG,eH,eI,eJ,eK,eL,eM,eN,eO,eP,eQ,eR,eS,eT,eU,eV,eW,eX,eY,eZ,aa,ab,ac,ae,af,ag,ah,ai,aj,ak,al,am,an,ao,ap,aq,ar,au,av,aw,ax,ay,az,aA,aB,aC,aD,aE,aF,aG,aH,aI,aJ,aK,aL,aM,aN,aO,aP,aQ,aR,aS,aT,aU,aV,aW,aX,aY,aZ,ba,bb,bc,bd,be,bf,bg,bh,bi,bj,bk],defers:=ds } W:=by
 obtain ⟨wd,hE⟩:∃wd:World,{ W with drawn:=W.drawn+1 }=wd:=⟨_,rfl⟩;have hA:Below W.heap.size W wd:=by rw [← hE];exact (Below.refl _ _).drew
 have HS:Hid (DanS s f len B B7 KB M SB PB D bar fj w wd):=qh ⟨Ac hA hS.num,Ac hA hS.bar,Ac hA hS.bars,hS.lw.below hA,Ad hS.below hA⟩;have HC:=qh hC;have HN:=qh hN;have hL:=qh hE;have hF:=qh hH;obtain ⟨hM,hO⟩:=hB;obtain ⟨hP,hQ⟩:=hK;have hR:IntKind.i64.wrap (s.bars-1)=s.bars-1:=IntWalk.i64_in _ (by omega);clear hC hN hE hH hS hA
 conv=>arg 2;whnf
 refine wp_region_held (S:=DanS s f len B B7 KB M SB PB D bar fj w) (by kernel_rfl) ?_;rw [hL.out];refine tq 0 _ (.pointer (some ⟨D,4,none⟩)) rfl (by kernel_rfl) (DQ.put (by decide)) (Or.inl ⟨by kernel_rfl,λV hb=>by go_simp⟩) HS.out ?_
 try (simp only [Act.put,List.getElem_toArray,List.getElem_cons_zero,List.setIfInBounds_toArray,List.set_cons_zero,List.set_cons_succ])
 refine tq 1 _ (int i64 bar) rfl (by kernel_rfl) (DQ.put (by decide)) (Or.inl ⟨by kernel_rfl,λV hb=>by have q0:=hb.bar;go_simp⟩) HS.out ?_
 try (simp only [Act.put,qA,qB,qC,qD,qE,qF])
 refine tq 2 _ (.pointer (some ⟨B,3,none⟩)) rfl (by kernel_rfl) (DQ.put (by decide)) (Or.inl ⟨by kernel_rfl,λV hb=>by go_simp⟩) HS.out ?_
 try (simp only [Act.put,qA,qB,qC,qD,qE,qF])
 refine tq 3 _ (int i64 s.bars) rfl (by kernel_rfl) (DQ.put (by decide)) (Or.inl ⟨by kernel_rfl,λV hb=>by have q0:=hb.bars;go_simp⟩) HS.out ?_
 try (simp only [Act.put,qA,qB,qC,qD,qE,qF])
 refine tq 4 _ (int i64 (s.bars-1)) rfl (by kernel_rfl) (DQ.put (by decide)) (Or.inl ⟨by kernel_rfl,λV hb=>by go_simp⟩) HS.out ?_
 try (simp only [Act.put,qA,qB,qC,qD,qE,qF])
 refine wpAnyH_ready (rs:=[5]) (by kernel_rfl) (by simp) ?_;refine AllReadyH.cons (o:=_) rfl (λK1 hD=>?_) AllReadyH.nil;go_simp
 cases hq:inB bar 0 (s.bars-1) with
 | false =>
  have HF:Hid (ok=false):=qh (by rw [hF.out,hq,Bool.false_and]);refine (CK (v:=false) (by assumption) _).mono ?_;rintro e2 w2 ⟨rfl,rfl⟩;refine hD.out _ _ HS.out (λ_=>?_);clear hD K1
  try (simp only [Act.put,qA,qB,qC,qD,qE,qF])
  refine tq 6 _ (.bool false) rfl (by kernel_rfl) (DQ.put (by decide)) (Or.inl ⟨by kernel_rfl,λV hb=>by go_simp⟩) HS.out ?_
  try (simp only [Act.put,qA,qB,qC,qD,qE,qF])
  refine tq 7 _ undef rfl (by kernel_rfl) (DQ.put (by decide)) (Or.inr ⟨by kernel_rfl,rfl⟩) HS.out ?_
  try (simp only [Act.put,qA,qB,qC,qD,qE,qF])
  refine tq 8 _ undef rfl (by kernel_rfl) (DQ.put (by decide)) (Or.inr ⟨by kernel_rfl,rfl⟩) HS.out ?_
  try (simp only [Act.put,qA,qB,qC,qD,qE,qF])
  refine tq 9 _ undef rfl (by kernel_rfl) (DQ.put (by decide)) (Or.inr ⟨by kernel_rfl,rfl⟩) HS.out ?_
  try (simp only [Act.put,qA,qB,qC,qD,qE,qF])
  refine tq 10 _ undef rfl (by kernel_rfl) (DQ.put (by decide)) (Or.inr ⟨by kernel_rfl,rfl⟩) HS.out ?_
  try (simp only [Act.put,qA,qB,qC,qD,qE,qF])
  refine tq 11 _ undef rfl (by kernel_rfl) (DQ.put (by decide)) (Or.inr ⟨by kernel_rfl,rfl⟩) HS.out ?_
  try (simp only [Act.put,qA,qB,qC,qD,qE,qF])
  refine tq 12 _ undef rfl (by kernel_rfl) (DQ.put (by decide)) (Or.inr ⟨by kernel_rfl,rfl⟩) HS.out ?_
  try (simp only [Act.put,qA,qB,qC,qD,qE,qF])
  refine tq 13 _ undef rfl (by kernel_rfl) (DQ.put (by decide)) (Or.inr ⟨by kernel_rfl,rfl⟩) HS.out ?_
  try (simp only [Act.put,qA,qB,qC,qD,qE,qF])
  refine tq 14 _ undef rfl (by kernel_rfl) (DQ.put (by decide)) (Or.inr ⟨by kernel_rfl,rfl⟩) HS.out ?_
  try (simp only [Act.put,qA,qB,qC,qD,qE,qF])
  refine tq 15 _ undef rfl (by kernel_rfl) (DQ.put (by decide)) (Or.inr ⟨by kernel_rfl,rfl⟩) HS.out ?_
  try (simp only [Act.put,qA,qB,qC,qD,qE,qF])
  refine tq 16 _ undef rfl (by kernel_rfl) (DQ.put (by decide)) (Or.inr ⟨by kernel_rfl,rfl⟩) HS.out ?_
  try (simp only [Act.put,qA,qB,qC,qD,qE,qF])
  refine tq 17 _ undef rfl (by kernel_rfl) (DQ.put (by decide)) (Or.inr ⟨by kernel_rfl,rfl⟩) HS.out ?_
  try (simp only [Act.put,qA,qB,qC,qD,qE,qF])
  refine tq 18 _ (.bool false) rfl (by kernel_rfl) (DQ.put (by decide)) (Or.inl ⟨by kernel_rfl,λV hb=>by go_simp⟩) HS.out ?_
  try (simp only [Act.put,qA,qB,qC,qD,qE,qF])
  refine wpAnyH_ready (rs:=[19]) (by kernel_rfl) (by simp) ?_;refine AllReadyH.cons (o:=_) rfl (λK2 hT=>?_) AllReadyH.nil;go_simp;refine (Am _).mono ?_;unfold Aj;rintro e2 w2 ⟨rfl,rfl⟩;exact ⟨rfl,rfl,rfl,HF.out,HS.out.below⟩
 | true =>
  obtain ⟨hU,hV⟩:=AR.1 hq;have hW:IntKind.i64.wrap (bar+lj)=bar+lj:=IntWalk.i64_in _ (by omega);refine (CK (v:=true) (by assumption) _).mono ?_;rintro e2 w2 ⟨rfl,rfl⟩;refine hD.out _ _ HS.out (λ_=>?_);clear hD K1
  try (simp only [Act.put,qA,qB,qC,qD,qE,qF])
  refine tq 6 _ (.bool true) rfl (by kernel_rfl) (DQ.put (by decide)) (Or.inl ⟨by kernel_rfl,λV hb=>by go_simp⟩) HS.out ?_
  try (simp only [Act.put,qA,qB,qC,qD,qE,qF])
  refine tq 7 _ (.pointer (some ⟨D,4,none⟩)) rfl (by kernel_rfl) (DQ.put (by decide)) (Or.inl ⟨by kernel_rfl,λV hb=>by go_simp⟩) HS.out ?_
  try (simp only [Act.put,qA,qB,qC,qD,qE,qF])
  refine tq 8 _ (int i64 bar) rfl (by kernel_rfl) (DQ.put (by decide)) (Or.inl ⟨by kernel_rfl,λV hb=>by have q0:=hb.bar;go_simp⟩) HS.out ?_
  try (simp only [Act.put,qA,qB,qC,qD,qE,qF])
  refine tq 9 _ (KL KB SB B7) rfl (by kernel_rfl) (DQ.put (by decide)) (Or.inl ⟨by kernel_rfl,λV hb=>by go_simp⟩) HS.out ?_
  try (simp only [Act.put,qA,qB,qC,qD,qE,qF])
  refine tq 10 _ (.pointer (some ⟨D,2,none⟩)) rfl (by kernel_rfl) (DQ.put (by decide)) (Or.inl ⟨by kernel_rfl,λV hb=>by go_simp⟩) HS.out ?_
  try (simp only [Act.put,qA,qB,qC,qD,qE,qF])
  refine tq 11 _ (.pointer (some ⟨D,3,none⟩)) rfl (by kernel_rfl) (DQ.put (by decide)) (Or.inl ⟨by kernel_rfl,λV hb=>by go_simp⟩) HS.out ?_
  try (simp only [Act.put,qA,qB,qC,qD,qE,qF])
  refine tq 12 _ (int i64 fj) rfl (by kernel_rfl) (DQ.put (by decide)) (Or.inl ⟨by kernel_rfl,λV hb=>by have q0:=hb.num;go_simp⟩) HS.out ?_
  try (simp only [Act.put,qA,qB,qC,qD,qE,qF])
  refine tq 15 _ (.pointer (some ⟨B,3,none⟩)) rfl (by kernel_rfl) (DQ.put (by decide)) (Or.inl ⟨by kernel_rfl,λV hb=>by go_simp⟩) HS.out ?_
  try (simp only [Act.put,qA,qB,qC,qD,qE,qF])
  refine tq 16 _ (int i64 s.bars) rfl (by kernel_rfl) (DQ.put (by decide)) (Or.inl ⟨by kernel_rfl,λV hb=>by have q0:=hb.bars;go_simp⟩) HS.out ?_
  try (simp only [Act.put,qA,qB,qC,qD,qE,qF])
  refine wpAnyH_ready (rs:=[13]) (by kernel_rfl) (by simp) ?_;refine AllReadyH.cons (o:=_) rfl (λK3 hI=>?_) AllReadyH.nil;go_simp;refine (HC.out _ HS.out).mono ?_;rintro e2 V2 ⟨rfl,hG⟩;refine hI.out _ _ hG (λ_=>?_);clear hI K3 HS;have HS:=qh hG;clear hG
  try (simp only [Act.put,qA,qB,qC,qD,qE,qF])
  refine tq 14 _ (int i64 (bar+lj)) rfl (by kernel_rfl) (DQ.put (by decide)) (Or.inl ⟨by kernel_rfl,λV hb=>by go_simp⟩) HS.out ?_
  try (simp only [Act.put,qA,qB,qC,qD,qE,qF])
  refine tq 17 _ (.bool (decide (bar+lj≤s.bars))) rfl (by kernel_rfl) (DQ.put (by decide)) (Or.inl ⟨by kernel_rfl,λV hb=>by go_simp⟩) HS.out ?_
  try (simp only [Act.put,qA,qB,qC,qD,qE,qF])
  refine tq 18 _ (.bool (decide (bar+lj≤s.bars))) rfl (by kernel_rfl) (DQ.put (by decide)) (Or.inl ⟨by kernel_rfl,λV hb=>by go_simp⟩) HS.out ?_
  try (simp only [Act.put,qA,qB,qC,qD,qE,qF])
  refine wpAnyH_ready (rs:=[19]) (by kernel_rfl) (by simp) ?_;refine AllReadyH.cons (o:=_) rfl (λK4 hJ=>?_) AllReadyH.nil;go_simp;by_cases hd:bar+lj≤s.bars
  ·have HF:Hid (ok=true):=qh (by rw [hF.out,hq,decide_eq_true hd];rfl)
   rw [decide_eq_true hd];refine (Au _).mono ?_;rintro e2 w2 ⟨rfl,rfl⟩;refine hJ.out _ _ HS.out (λ_=>?_);clear hJ K4
   try (simp only [Act.put,qA,qB,qC,qD,qE,qF])
   refine wpAnyH_done (by kernel_rfl) ?_ _;exact HN.out HF.out _ _ _ _ _ _ _ _ _ _ _ _ _ _ _ _ _ _ _ _ _ HS.out
  ·have HF:Hid (ok=false):=qh (by rw [hF.out,hq,decide_eq_false hd];rfl)
   rw [decide_eq_false hd];refine (Am _).mono ?_;unfold Aj;rintro e2 w2 ⟨rfl,rfl⟩;exact ⟨rfl,rfl,rfl,HF.out,HS.out.below⟩
theorem SJ(s:Ls)(f:Nm→Int)(len:Int→Int)(B E B7 KB M SB PB:Nat)(w W:World)(hs:RgS s f B w)(hb:Below w.heap.size w W)(hL:LenW W s f B7 KB M SB PB len)(hM:w.heap.size≤M)(hI:NumAt f w (Al (blk s.da) (off s.da) s.dances))(hC:1≤s.bars∧s.bars≤4096)
  (hP:∀d∈s.dances,∀V,LenW V s f B7 KB M SB PB len→Calls Tryz.prog 44 #[int i64 (f d.pn),.pointer (some ⟨KB,0,none⟩),.pointer (some ⟨SB,0,none⟩),.pointer (some ⟨B7,0,none⟩)] V (JH s f B7 KB M SB PB len (len (f d.pn)) V)) (hJ:∀d∈s.dances,0≤len (f d.pn)∧len (f d.pn)≤4097)
  (_hl:s.dances.length≤100000) (ds:List Deferred) (Q:Exit→Act→World→Prop)
  (hN:s.dances.all (Ch s f len)=true→∀(x0 x3 x4 x5 x6 x7 x8 x9 bl bm bn bo bp bq br bs bt bu bv bw bx bz bA bB bC bD bE bF bG bH bI bJ bK bL bM bN bO bP bQ bR bS bT bU bV bW bX bY bZ ca cb cc cd ce cf cg ch ci cj ck cm cn co cp cq cr cs ct cu cv cw cx cy cz cA cB cC cD cE cF cG cH cI cJ cK cL cM cN cO cP cQ cR cS cT cU cV cW cX cY cZ db dd de dg dh di dj dk dl dm dn dp dq dr dt du dv dw dx dy dz:Value) (V:World),Below w.heap.size w V→Q .normal { tmps:=#[x0,.pointer (some ⟨B,0,none⟩),.pointer (some ⟨E,0,none⟩),x3,x4,x5,x6,x7,x8,x9,bl,bm,bn,bo,bp,bq,br,bs,bt,bu,bv,bw,bx,bz,bA,bB,bC,bD,bE,bF,bG,bH,bI,bJ,bK,bL,bM,bN,bO,bP,bQ,bR,bS,bT,bU,bV,bW,bX,bY,bZ,ca,cb,cc,cd,ce,cf,cg,ch,ci,cj,ck,cm,cn,co,cp,cq,cr,cs,ct,cu,cv,cw,cx,cy,cz,cA,cB,cC,cD,cE,cF,cG,cH,cI,cJ,cK,cL,cM,cN,cO,cP,cQ,cR,cS,cT,cU,cV,cW,cX,cY,cZ,db,dd,de,dg,dh,di,dj,dk,dl,dm,dn,dp,dq,dr,dt,du,dv,dw,dx,dy,dz],defers:=ds } V)
  (hO:s.dances.all (Ch s f len)=false→∀(t:Array Value) (V:World),t.getD 2 undef=.pointer (some ⟨E,0,none⟩)→Below w.heap.size w V→Q (.panic BU) { tmps:=t,defers:=ds } V) :
  elem29n10.wp Tryz.prog Q { tmps:=#[e0,.pointer (some ⟨B,0,none⟩),.pointer (some ⟨E,0,none⟩),e3,e4,e5,e6,KL KB SB B7,e8,e9,ea,eb,ec,ed,ee,ef,eg,eh,ei,ej,ek,el,em,en,eo,ep,eq,er,es,et,eu,ev,ew,ex,ey,ez,eA,eB,eC,eD,eE,eF,eG,eH,eI,eJ,eK,eL,eM,eN,eO,eP,eQ,eR,eS,eT,eU,eV,eW,eX,eY,eZ,aa,ab,ac,ae,af,ag,ah,ai,aj,ak,al,am,an,ao,ap,aq,ar,au,av,aw,ax,ay,az,aA,aB,aC,aD,aE,aF,aG,aH,aI,aJ,aK,aL,aM,aN,aO,aP,aQ,aR,aS,aT,aU,aV,aW,aX,aY,aZ,ba,bb,bc,bd,be,bf,bg,bh,bi,bj,bk],defers:=ds } W:=by
 have hS:=hs.below hb;have y6:W.cell? ⟨B,11,none⟩=some (.slice s.da s.dances.length s.dc):=Aa hS.box 11 rfl;have HN:=qh hN;have hf:=qh hO;have HB:=qh hb;have HS:=qh hs;have HL:=qh hL;have hh:=qh hI;have hj:=qh hP;have hm:=qh hJ;have ho:=qh hM;clear hN hO hb hS hs hL hI hP hJ hM;generalize hn:s.dances.length=n at *;have hQ:=qh hn;clear hn
 conv=>arg 2;whnf
 go_wp2_with fail;go_loopw [97] (λiv wr=>∃i:Nat,iv=int i64 i∧i≤n∧Hid (∀d∈s.dances.take i,Ch s f len d=true)∧Hid (Below w.heap.size w wr)∧Hid (LenW wr s f B7 KB M SB PB len)) (λiv _=>n+1-(intOf iv).toNat)
 case atStart=>exact ⟨0,rfl,Nat.zero_le _,qh (by simp),HB,HL⟩
 case round =>
  obtain ⟨i,rfl,h1,hR,hB,hq⟩:=hrel;by_cases hr:i<n
  ·have hi:(i:Int)<(n:Int):=by omega
   obtain ⟨d,hd⟩:∃d,s.dances[i]?=some d:=⟨_,qg (by rw [hQ.out];exact hr)⟩;have hF:=List.mem_of_getElem? hd;have hE:=HS.out.below hB.out;have hT:=hh.out.below hB.out;obtain ⟨u1,c0,c1,c2,c3,c4,c5⟩:=FL hE.at_.dances hT hd;have ht:=hE.at_.dform.resolve_left (λe=>by rw [e] at hd;cases hd);obtain ⟨W2,hU,gW2,bW2,sW2⟩:=Ag wr #[sv d.rn,int i64 u1,sv d.pn,int i64 (f d.pn),int i64 d.bar,.bool d.mirror] 53;have y3:W2.cell? ⟨B,3,none⟩=some (int i64 s.bars):=Aa (hE.below bW2).box 3 rfl;have z3:=Aa gW2 3 rfl;have z4:=Aa gW2 4 rfl;have hW:=hq.out.below bW2;have hu:Hid (DanS s f len B B7 KB M SB PB wr.heap.size d.bar (f d.pn) w W2):=qh ⟨z3,z4,y3,hW,Ad hB.out bW2⟩
   have hX:∀V V',DanS s f len B B7 KB M SB PB wr.heap.size d.bar (f d.pn) w V→LenW V' s f B7 KB M SB PB len→V.grownBy V' (some M)→DanS s f len B B7 KB M SB PB wr.heap.size d.bar (f d.pn) w V':=λV V' h hl hg =>
    ⟨BQ h.num h.lw.isMap hg,BQ h.bar h.lw.isMap hg,BQ h.bars h.lw.isMap hg,hl,h.below.grown hg h.below.size (λk hk=>by cases hk;exact ho.out)⟩
   have C:=λV (h:DanS s f len B B7 KB M SB PB wr.heap.size d.bar (f d.pn) w V)=>(hj.out d hF V h.lw).mono λe V' (hp:JH s f B7 KB M SB PB len (len (f d.pn)) V e V')=>(⟨hp.1,hX V V' h hp.2.1 hp.2.2⟩:e=.returned (int i64 (len (f d.pn)))∧DanS s f len B B7 KB M SB PB wr.heap.size d.bar (f d.pn) w V')
   have HC:=qh C;have HX:=qh hd;have hG:=qh (hm.out d hF);clear hd hF hE hT gW2 bW2 sW2 hW C hX y3 z3 z4;have hv:=qh hU;clear hU;generalize hY:s.da=da at *;have h6:=qh hY;clear hY;generalize hw:blk da=fb at *;generalize hy:off da=fo at *;subst ht;clear hw hy;refine Ae (λK1 hK=>?_);have hZ:=qh hK;clear hK;go_wp2_with fail;refine hZ.out _ _ ?_;clear hZ K1;refine Ae (λK2 hK=>?_);have ha:=qh hK;clear hK;go_wp2_with fail;refine ha.out _ _ ?_;clear ha K2;refine Ae (λK3 hK=>?_);have hc:=qh hK;clear hK;refine wp_block ?_;refine Ae (λK4 hK=>?_);have he:=qh hK;clear hK;go_wp2_with fail;refine he.out _ _ ?_;clear he K4;rw [hv.out];change Code.wp Tryz.prog reg23 _ _ _;refine Code.wp_mono (λe a V h=>?_) (QZ s f len B E B7 KB M SB PB wr.heap.size d.bar (f d.pn) (len (f d.pn)) w W2 hu.out hC hG.out HC.out (Ch s f len d) rfl ds K3 (λhD=>?_))
   ·cases e with
    | normal=>exact h
    | panic c =>
     obtain ⟨tm,df⟩:=a;obtain ⟨rfl,h2,h3,h4,h5⟩:=h;have h0:df=ds:=h3;subst h0
     have hA:s.dances.all (Ch s f len)=false:=by
      rw [← Bool.not_eq_true,List.all_eq_true];intro h;rw [h d (List.mem_of_getElem? HX.out)] at h4;cases h4
     exact hf.out hA tm V h2 h5
    | _=>exact h.elim
   ·intros
    rename_i V hV;refine hc.out _ _ ?_;have HV:=qh hV;have hH:=qh hD;clear hV hD hc K3;go_wp2_with fail;go_roundw
    case rel=>exact ⟨i+1,by go_num,by omega,qh (Dt hR.out HX.out hH.out),qh HV.out.below,qh HV.out.lw⟩
    case measure=>simp [intOf];omega
  ·have:i=n:=by omega
   subst this;have hz:¬(i:Int)<(i:Int):=by omega
   have hA:s.dances.all (Ch s f len)=true:=List.all_eq_true.2 (λx hx=>hR.out x (by rw [List.take_of_length_le (by rw [hQ.out];exact qn _)];exact hx));have HC:=qh hA;clear hA;go_wp2_with fail;exact HN.out HC.out _ _ _ _ _ _ _ _ _ _ _ _ _ _ _ _ _ _ _ _ _ _ _ _ _ _ _ _ _ _ _ _ _ _ _ _ _ _ _ _ _ _ _ _ _ _ _ _ _ _ _ _ _ _ _ _ _ _ _ _ _ _ _ _ _ _ _ _ _ _ _ _ _ _ _ _ _ _ _ _ _ _ _ _ _ _ _ _ _ _ _ _ _ _ _ _ _ _ _ _ _ _ _ _ _ _ _ _ _ _ _ _ _ _ _ _ _ _ _ _ _ hB.out
end
end Go.Proofs.YtpnbpepkoekkoaaGreat
