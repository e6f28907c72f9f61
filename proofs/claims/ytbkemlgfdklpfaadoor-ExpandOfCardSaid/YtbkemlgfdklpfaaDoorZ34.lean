/- Contracts and plain laws on the way to the statement: part 34. -/
import Derived.Test.YtbkemlgfdklpfaaDoorZ33
import Derived.Test.YtbkemlgfdklpfaaDoorZ1
import Derived.IntWalk
import Derived.BigRegion
import Derived.Deep.QuietTactic
import Derived.BigQuiet
import Derived.Deep.RegionHeld3
import Derived.Deep.MidRow
import Derived.Test.YtbkemlgfdklpfaaDoorZ4
set_option linter.unusedVariables false
set_option linter.unusedSimpArgs false
set_option maxRecDepth 100000
set_option maxHeartbeats 16000000
namespace Go.Proofs.YtbkemlgfdklpfaaDoor
open Go.Value (int)
open Go.IntKind (i64)
section
open Go.RowKit
def Cu(k:Nat)(side dir level size wth roles:Int):Bool :=
 Ct side (Dy k) 1 2&&Ct dir (Ft k) (Cv k) 8&&Ct level (decide (0<C8 k)) 1 (C8 k)&&Ct size (decide (0<De k)) 1 (De k)&&Ct wth (Dz k) 1 roles
def Ec(fn fd tn td:Int):Bool:=Bs fn fd&&Bs tn td&&decide (0≤fn)&&decide (fn*td<tn*fd)&&decide (tn≤td)
def D9(role bar mark kind side dir level size wth fn fd tn td roles bars:Int):Bool :=
 inB kind 1 9&&inB role 0 (roles-1)&&inB bar 0 (bars-1)&&inB mark 1 3&&Cu kind.toNat side dir level size wth roles&&Ec fn fd tn td
theorem CA{role bar mark kind side dir level size wth fn fd tn td roles bars:Int}(h:Cu kind.toNat side dir level size wth roles=false):false=D9 role bar mark kind side dir level size wth fn fd tn td roles bars:=by
 unfold D9;rw [h];simp
theorem Ci{role bar mark kind side dir level size wth fn fd tn td roles bars:Int}(h:Ec fn fd tn td=false):false=D9 role bar mark kind side dir level size wth fn fd tn td roles bars:=by
 unfold D9;rw [h];simp
theorem JR{a b:Int}(h:a<b):CW a b=-1:=by unfold CW;rw [if_pos h]
theorem JQ{a b:Int}(h:b<a):CW a b=1:=by unfold CW;rw [if_neg (by omega),if_pos h]
theorem JP{a b:Int}(h:a=b):CW a b=0:=by unfold CW;rw [if_neg (by omega),if_neg (by omega)]
theorem Ng{a b c d:Int}(h:Bs a b=false∨Bs c d=false):EV a b c d=.tuple #[int i64 0,int i64 120]:=by
 unfold EV;rcases h with h|h<;>rw [h]<;>simp
theorem Kf{a b c d:Int}(h1:Bs a b=true)(h2:Bs c d=true):EV a b c d=.tuple #[int i64 (CW (a*d) (c*b)),int i64 0]:=by
 unfold EV;rw [h1,h2];rfl
theorem Od{d:Int}(h:Bs 0 d=true):d=1:=by
 obtain ⟨h1,_,_,_⟩:=Ke h;unfold Bs at h;simp only [Bool.and_eq_true,decide_eq_true_eq] at h;have h2:=h.2;rw [show (0:Int).natAbs=0 from rfl,Nat.gcd_zero_left] at h2;omega
theorem Si{fn fd tn td:Int}(h:(fn==tn&&fd==td)=true):Ec fn fd tn td=false:=by
 simp at h;obtain ⟨rfl,rfl⟩:=h;unfold Ec;simp
theorem Sj{fn fd tn td:Int}(h:fn*td<tn*fd):(tn==fn&&td==fd)=false:=by
 rw [Bool.eq_false_iff];intro e;simp at e;obtain ⟨rfl,rfl⟩:=e;omega
def SY(fn fd tn td z:Int):Prop:=z=0∨(z=1∧Bs fn fd=true∧0≤fn)∨(z=2∧Bs fn fd=true∧Bs tn td=true∧0≤fn∧fn*td<tn*fd) ∨
 (z=3∧Bs fn fd=true∧Bs tn td=true∧0≤fn∧fn*td<tn*fd∧tn≤td)
theorem Sk{fn fd tn td:Int}(h:Bs fn fd=true∧Bs tn td=true∧0≤fn∧fn*td<tn*fd∧tn≤td):Ec fn fd tn td=true:=by
 unfold Ec;rw [h.1,h.2.1,decide_eq_true h.2.2.1,decide_eq_true h.2.2.2.1,decide_eq_true h.2.2.2.2];rfl
theorem Oo(id role bar mark kind side dir level size wth fn fd tn td roles bars:Int)(ha:0≤roles)(hb:roles≤65536)(hd:-9223372036854775807≤bars)(he:bars≤65536)(w:World)(hE:EnvK w) :
  Calls Tryd.prog 18 #[.agg #[int i64 id,int i64 role,int i64 bar,int i64 mark,int i64 kind,int i64 side,int i64 dir,int i64 level,int i64 size,int i64 wth,int i64 fn,int i64 fd,int i64 tn,int i64 td],int i64 roles,int i64 bars] w
   λe w'=>e=.returned (.bool (D9 role bar mark kind side dir level size wth fn fd tn td roles bars))∧Below w.heap.size w w':=by
 have hL:Below w.heap.size w (w.alloc (.cells #[int i64 id,int i64 role,int i64 bar,int i64 mark,int i64 kind,int i64 side,int i64 dir,int i64 level,int i64 size,int i64 wth,int i64 fn,int i64 fd,int i64 tn,int i64 td] 43)):=(Below.refl _ w).alloc (qn _) _;have hz:w.heap.size<(w.alloc (.cells #[int i64 id,int i64 role,int i64 bar,int i64 mark,int i64 kind,int i64 side,int i64 dir,int i64 level,int i64 size,int i64 wth,int i64 fn,int i64 fd,int i64 tn,int i64 td] 43)).heap.size:=by simp
 have g0:=heap_alloc_new w (.cells #[int i64 id,int i64 role,int i64 bar,int i64 mark,int i64 kind,int i64 side,int i64 dir,int i64 level,int i64 size,int i64 wth,int i64 fn,int i64 fd,int i64 tn,int i64 td] 43);have HE:=qh (hE.below hL);clear hE;go_enter Tryd.func18,Tryd.ntmps18;go_wp2_with fail;generalize w.alloc (.cells #[int i64 id,int i64 role,int i64 bar,int i64 mark,int i64 kind,int i64 side,int i64 dir,int i64 level,int i64 size,int i64 wth,int i64 fn,int i64 fd,int i64 tn,int i64 td] 43)=w0 at *;have hF:=qh hL;clear hL;have G0:=qh g0;have c0:w0.cell? ⟨w.heap.size,0,none⟩=some (int i64 id):=Aa g0 0 rfl;have c1:w0.cell? ⟨w.heap.size,1,none⟩=some (int i64 role):=Aa g0 1 rfl;have c2:w0.cell? ⟨w.heap.size,2,none⟩=some (int i64 bar):=Aa g0 2 rfl;have c3:w0.cell? ⟨w.heap.size,3,none⟩=some (int i64 mark):=Aa g0 3 rfl;have c4:w0.cell? ⟨w.heap.size,4,none⟩=some (int i64 kind):=Aa g0 4 rfl;have c5:w0.cell? ⟨w.heap.size,5,none⟩=some (int i64 side):=Aa g0 5 rfl;have c6:w0.cell? ⟨w.heap.size,6,none⟩=some (int i64 dir):=Aa g0 6 rfl;have c7:w0.cell? ⟨w.heap.size,7,none⟩=some (int i64 level):=Aa g0 7 rfl;have c8:w0.cell? ⟨w.heap.size,8,none⟩=some (int i64 size):=Aa g0 8 rfl;have c9:w0.cell? ⟨w.heap.size,9,none⟩=some (int i64 wth):=Aa g0 9 rfl;have c10:w0.cell? ⟨w.heap.size,10,none⟩=some (int i64 fn):=Aa g0 10 rfl;have c11:w0.cell? ⟨w.heap.size,11,none⟩=some (int i64 fd):=Aa g0 11 rfl;have c12:w0.cell? ⟨w.heap.size,12,none⟩=some (int i64 tn):=Aa g0 12 rfl;have c13:w0.cell? ⟨w.heap.size,13,none⟩=some (int i64 td):=Aa g0 13 rfl;clear g0;refine (AX kind 1 9 _).mono ?_;rintro e w' ⟨rfl,rfl⟩
 cases h1:inB kind 1 9 with
 | false =>
  go_wp2_with fail;go_ret;exact ⟨AG (by unfold D9;rw [h1];rfl),hF.out⟩
 | true =>
  have H1:=qh h1;clear h1;obtain ⟨k,hk,hf,hg⟩:∃k:Nat,kind=(k:Int)∧1≤k∧k≤9:=⟨kind.toNat,by have:=AM.1 H1.out;omega,by have:=AM.1 H1.out;omega,by have:=AM.1 H1.out;omega⟩;subst hk;go_wp2_with fail;refine (AX role 0 _ _).mono ?_;rintro e w' ⟨rfl,rfl⟩
  cases h2:inB role 0 (roles-1) with
  | false =>
   go_wp2_with fail;go_ret;exact ⟨AG (by unfold D9;rw [H1.out,h2];rfl),hF.out⟩
  | true =>
   have H2:=qh h2;clear h2;go_wp2_with fail;refine (AX bar 0 _ _).mono ?_;rintro e w' ⟨rfl,rfl⟩
   cases h3:inB bar 0 (bars-1) with
   | false =>
    go_wp2_with fail;go_ret;exact ⟨AG (by unfold D9;rw [H1.out,H2.out,h3];rfl),hF.out⟩
   | true =>
    have H3:=qh h3;clear h3;go_wp2_with fail;refine (AX mark 1 3 _).mono ?_;rintro e w' ⟨rfl,rfl⟩
    cases h4:inB mark 1 3 with
    | false =>
     go_wp2_with fail;go_ret;exact ⟨AG (by unfold D9;rw [H1.out,H2.out,H3.out,h4];rfl),hF.out⟩
    | true =>
     have H4:=qh h4;clear h4;have kf:=HE.out.kinds k (by omega);have t0:w0.cell? ⟨0,k*6,none⟩=some (.bool (Dy k)):=kf 0 _ rfl;have t1:w0.cell? ⟨0,k*6+1,none⟩=some (.bool (Ft k)):=kf 1 _ rfl;have t2:w0.cell? ⟨0,k*6+2,none⟩=some (.bool (Dz k)):=kf 2 _ rfl;have t3:w0.cell? ⟨0,k*6+3,none⟩=some (int i64 (Cv k)):=kf 3 _ rfl;have t4:w0.cell? ⟨0,k*6+4,none⟩=some (int i64 (C8 k)):=kf 4 _ rfl;have t5:w0.cell? ⟨0,k*6+5,none⟩=some (int i64 (De k)):=kf 5 _ rfl;clear kf;have b1:Below w.heap.size w (w0.alloc (.cells #[.bool (Dy k),.bool (Ft k),.bool (Dz k),int i64 (Cv k),int i64 (C8 k),int i64 (De k)] 103)):=hF.out.alloc hF.out.size _;have q0:=(Below.heap_alloc w0 (.cells #[.bool (Dy k),.bool (Ft k),.bool (Dz k),int i64 (Cv k),int i64 (C8 k),int i64 (De k)] 103) w.heap.size (by omega)).trans G0.out;have q1:=heap_alloc_new w0 (.cells #[.bool (Dy k),.bool (Ft k),.bool (Dz k),int i64 (Cv k),int i64 (C8 k),int i64 (De k)] 103);have hT:(w0.alloc (.cells #[.bool (Dy k),.bool (Ft k),.bool (Dz k),int i64 (Cv k),int i64 (C8 k),int i64 (De k)] 103)).heap.size=w0.heap.size+1:=by simp
     go_wp2_with fail;generalize w0.alloc (.cells #[.bool (Dy k),.bool (Ft k),.bool (Dz k),int i64 (Cv k),int i64 (C8 k),int i64 (De k)] 103)=w1 at *;have hG:=qh b1;clear b1 hF;have hh:w.heap.size<w1.heap.size:=by omega
     have hi:w0.heap.size<w1.heap.size:=by omega
     clear hT;have Q0:=qh q0;have Q1:=qh q1;clear c0 c1 c2 c3 c4 c5 c6 c7 c8 c9 c10 c11 c12 c13 t0 t1 t2 t3 t4 t5 HE;have c0:w1.cell? ⟨w.heap.size,0,none⟩=some (int i64 id):=Aa q0 0 rfl;have c1:w1.cell? ⟨w.heap.size,1,none⟩=some (int i64 role):=Aa q0 1 rfl;have c2:w1.cell? ⟨w.heap.size,2,none⟩=some (int i64 bar):=Aa q0 2 rfl;have c3:w1.cell? ⟨w.heap.size,3,none⟩=some (int i64 mark):=Aa q0 3 rfl;have c4:w1.cell? ⟨w.heap.size,4,none⟩=some (int i64 (k:Int)):=Aa q0 4 rfl;have c5:w1.cell? ⟨w.heap.size,5,none⟩=some (int i64 side):=Aa q0 5 rfl;have c6:w1.cell? ⟨w.heap.size,6,none⟩=some (int i64 dir):=Aa q0 6 rfl;have c7:w1.cell? ⟨w.heap.size,7,none⟩=some (int i64 level):=Aa q0 7 rfl;have c8:w1.cell? ⟨w.heap.size,8,none⟩=some (int i64 size):=Aa q0 8 rfl;have c9:w1.cell? ⟨w.heap.size,9,none⟩=some (int i64 wth):=Aa q0 9 rfl;have c10:w1.cell? ⟨w.heap.size,10,none⟩=some (int i64 fn):=Aa q0 10 rfl;have c11:w1.cell? ⟨w.heap.size,11,none⟩=some (int i64 fd):=Aa q0 11 rfl;have c12:w1.cell? ⟨w.heap.size,12,none⟩=some (int i64 tn):=Aa q0 12 rfl;have c13:w1.cell? ⟨w.heap.size,13,none⟩=some (int i64 td):=Aa q0 13 rfl;have t0:w1.cell? ⟨w0.heap.size,0,none⟩=some (.bool (Dy k)):=Aa q1 0 rfl;have t1:w1.cell? ⟨w0.heap.size,1,none⟩=some (.bool (Ft k)):=Aa q1 1 rfl;have t2:w1.cell? ⟨w0.heap.size,2,none⟩=some (.bool (Dz k)):=Aa q1 2 rfl;have t3:w1.cell? ⟨w0.heap.size,3,none⟩=some (int i64 (Cv k)):=Aa q1 3 rfl;have t4:w1.cell? ⟨w0.heap.size,4,none⟩=some (int i64 (C8 k)):=Aa q1 4 rfl;have t5:w1.cell? ⟨w0.heap.size,5,none⟩=some (int i64 (De k)):=Aa q1 5 rfl;clear q0 q1;refine (DP side (Dy k) 1 2 _).mono ?_;rintro e w' ⟨rfl,rfl⟩
     cases f0:Ct side (Dy k) 1 2 with
     | false =>
      go_wp2_with fail;go_ret;exact ⟨AG (by exact CA (by unfold Cu;rw [Int.toNat_natCast,f0];simp)),hG.out⟩
     | true =>
      have F0:=qh f0;clear f0;go_wp2_with fail;refine (DP dir (Ft k) (Cv k) 8 _).mono ?_;rintro e w' ⟨rfl,rfl⟩
      cases f1:Ct dir (Ft k) (Cv k) 8 with
      | false =>
       go_wp2_with fail;go_ret;exact ⟨AG (by exact CA (by unfold Cu;rw [Int.toNat_natCast,F0.out,f1];simp)),hG.out⟩
      | true =>
       have F1:=qh f1;clear f1;go_wp2_with fail;refine (DP level _ 1 (C8 k) _).mono ?_;rintro e w' ⟨rfl,rfl⟩
       cases f2:Ct level (decide (0<C8 k)) 1 (C8 k) with
       | false =>
        go_wp2_with fail;go_ret;exact ⟨AG (by exact CA (by unfold Cu;rw [Int.toNat_natCast,F0.out,F1.out,f2];simp)),hG.out⟩
       | true =>
        have F2:=qh f2;clear f2;go_wp2_with fail;refine (DP size _ 1 (De k) _).mono ?_;rintro e w' ⟨rfl,rfl⟩
        cases f3:Ct size (decide (0<De k)) 1 (De k) with
        | false =>
         go_wp2_with fail;go_ret;exact ⟨AG (by exact CA (by unfold Cu;rw [Int.toNat_natCast,F0.out,F1.out,F2.out,f3];simp)),hG.out⟩
        | true =>
         have F3:=qh f3;clear f3;go_wp2_with fail;refine (DP wth (Dz k) 1 roles _).mono ?_;rintro e w' ⟨rfl,rfl⟩
         cases f4:Ct wth (Dz k) 1 roles with
         | false =>
          go_wp2_with fail;go_ret;exact ⟨AG (by exact CA (by unfold Cu;rw [Int.toNat_natCast,F0.out,F1.out,F2.out,F3.out,f4];simp)),hG.out⟩
         | true =>
          have F4:=qh f4;clear f4;go_wp2_with fail
          have r0:(((w1.alloc (.cells #[int i64 0,int i64 1] 41)).alloc (.cells #[int i64 1,int i64 1] 41)).alloc (.cells #[int i64 0,int i64 1,int i64 fn,int i64 fd,int i64 fn,int i64 fd,int i64 tn,int i64 td,int i64 tn,int i64 td,int i64 1,int i64 1] 106)).heap[w.heap.size]?=some (.cells #[int i64 id,int i64 role,int i64 bar,int i64 mark,int i64 (k:Int),int i64 side,int i64 dir,int i64 level,int i64 size,int i64 wth,int i64 fn,int i64 fd,int i64 tn,int i64 td] 43 (0,0)):=by
           rw [Below.heap_alloc _ _ _ (by simp;omega),Below.heap_alloc _ _ _ (by simp;omega),Below.heap_alloc _ _ _ (by omega)];exact Q0.out
          have r1:(((w1.alloc (.cells #[int i64 0,int i64 1] 41)).alloc (.cells #[int i64 1,int i64 1] 41)).alloc (.cells #[int i64 0,int i64 1,int i64 fn,int i64 fd,int i64 fn,int i64 fd,int i64 tn,int i64 td,int i64 tn,int i64 td,int i64 1,int i64 1] 106)).heap[w1.heap.size+2]?=some (.cells #[int i64 0,int i64 1,int i64 fn,int i64 fd,int i64 fn,int i64 fd,int i64 tn,int i64 td,int i64 tn,int i64 td,int i64 1,int i64 1] 106 (0,0)):=by
           have:=heap_alloc_new ((w1.alloc (.cells #[int i64 0,int i64 1] 41)).alloc (.cells #[int i64 1,int i64 1] 41)) (.cells #[int i64 0,int i64 1,int i64 fn,int i64 fd,int i64 fn,int i64 fd,int i64 tn,int i64 td,int i64 tn,int i64 td,int i64 1,int i64 1] 106);simpa using this
          have hP:Below w.heap.size w (((w1.alloc (.cells #[int i64 0,int i64 1] 41)).alloc (.cells #[int i64 1,int i64 1] 41)).alloc (.cells #[int i64 0,int i64 1,int i64 fn,int i64 fd,int i64 fn,int i64 fd,int i64 tn,int i64 td,int i64 tn,int i64 td,int i64 1,int i64 1] 106)):=((hG.out.alloc (by omega) _).alloc (by simp;omega) _).alloc (by simp;omega) _;have hU:(((w1.alloc (.cells #[int i64 0,int i64 1] 41)).alloc (.cells #[int i64 1,int i64 1] 41)).alloc (.cells #[int i64 0,int i64 1,int i64 fn,int i64 fd,int i64 fn,int i64 fd,int i64 tn,int i64 td,int i64 tn,int i64 td,int i64 1,int i64 1] 106)).heap.size=w1.heap.size+3:=by simp
          generalize (((w1.alloc (.cells #[int i64 0,int i64 1] 41)).alloc (.cells #[int i64 1,int i64 1] 41)).alloc (.cells #[int i64 0,int i64 1,int i64 fn,int i64 fd,int i64 fn,int i64 fd,int i64 tn,int i64 td,int i64 tn,int i64 td,int i64 1,int i64 1] 106))=w3 at *;have hV:w.heap.size<w3.heap.size:=by omega
          have hW:w1.heap.size+2<w3.heap.size:=by omega
          clear c0 c1 c2 c3 c4 c5 c6 c7 c8 c9 c10 c11 c12 c13 t0 t1 t2 t3 t4 t5 hU;generalize w1.heap.size=gs at *;have hQ:=qh r0;have hR:=qh r1;have hS:=qh hP;clear r0 r1 hP hG Q0 Q1;have HF:Hid (Cu ((k:Int).toNat) side dir level size wth roles=true):=qh (by unfold Cu;rw [Int.toNat_natCast,F0.out,F1.out,F2.out,F3.out,F4.out];rfl);clear F0 F1 F2 F3 F4;go_loopw [108] (λi wr=>∃z:Int,i=int i64 z∧SY fn fd tn td z∧Hid (wr.heap[w.heap.size]?=some (.cells #[int i64 id,int i64 role,int i64 bar,int i64 mark,int i64 (k:Int),int i64 side,int i64 dir,int i64 level,int i64 size,int i64 wth,int i64 fn,int i64 fd,int i64 tn,int i64 td] 43 (0,0)))∧Hid (wr.heap[gs+2]?=some (.cells #[int i64 0,int i64 1,int i64 fn,int i64 fd,int i64 fn,int i64 fd,int i64 tn,int i64 td,int i64 tn,int i64 td,int i64 1,int i64 1] 106 (0,0)))∧w.heap.size<wr.heap.size∧gs+2<wr.heap.size∧Hid (Below w.heap.size w wr)) (λi _=>(3-intOf i).toNat)
          case atStart=>exact ⟨0,rfl,Or.inl rfl,hQ,hR,hV,hW,hS⟩
          case round =>
           obtain ⟨z,rfl,hX,hK,hB,hM,hN,hH⟩:=hrel;clear hQ hR hS;rcases hX with rfl|⟨rfl,hs⟩|⟨rfl,hs⟩|⟨rfl,hs⟩
           ·have e0:wr.cell? ⟨gs+2,0,none⟩=some (int i64 0):=Aa hB.out 0 rfl
            have e1:wr.cell? ⟨gs+2,1,none⟩=some (int i64 1):=Aa hB.out 1 rfl;have e2:wr.cell? ⟨gs+2,2,none⟩=some (int i64 fn):=Aa hB.out 2 rfl;have e3:wr.cell? ⟨gs+2,3,none⟩=some (int i64 fd):=Aa hB.out 3 rfl;have x0:=(Below.heap_alloc wr (.cells #[int i64 0,int i64 1,int i64 fn,int i64 fd] 106) w.heap.size hM).trans hK.out;have x1:=(Below.heap_alloc wr (.cells #[int i64 0,int i64 1,int i64 fn,int i64 fd] 106) (gs+2) hN).trans hB.out;have x2:=heap_alloc_new wr (.cells #[int i64 0,int i64 1,int i64 fn,int i64 fd] 106);have x3:Below w.heap.size w (wr.alloc (.cells #[int i64 0,int i64 1,int i64 fn,int i64 fd] 106)):=hH.out.alloc (by omega) _;have x4:(wr.alloc (.cells #[int i64 0,int i64 1,int i64 fn,int i64 fd] 106)).heap.size=wr.heap.size+1:=by simp
            have X0:=qh x0;have X1:=qh x1;have X2:=qh x2;have X3:=qh x3;have X4:=qh x4;clear x0 x1 x2 x3 x4;go_wp2_with fail;refine (Eo 0 1 fn fd _).mono ?_;rintro e w5 ⟨rfl,b5⟩;have hD:=b5.size;rw [X4.out] at hD;have y0:=(b5.block _ (by rw [X4.out];omega)).trans X0.out;have y1:=(b5.block _ (by rw [X4.out];omega)).trans X1.out;have y2:=(b5.block _ (by rw [X4.out];omega)).trans X2.out;have hC:=qh (X3.out.trans (b5.mono (by rw [X4.out];omega)));have Y0:=qh y0;have Y1:=qh y1;clear b5 X0 X1 X2 X3 X4 hK hB hH;generalize wr.heap.size=gw at *;have l0:w5.cell? ⟨gw,0,none⟩=some (int i64 0):=Aa y2 0 rfl;have l1:w5.cell? ⟨gw,1,none⟩=some (int i64 1):=Aa y2 1 rfl;have l2:w5.cell? ⟨gw,2,none⟩=some (int i64 fn):=Aa y2 2 rfl;have l3:w5.cell? ⟨gw,3,none⟩=some (int i64 fd):=Aa y2 3 rfl;have b10:w5.cell? ⟨w.heap.size,10,none⟩=some (int i64 fn):=Aa y0 10 rfl;have b11:w5.cell? ⟨w.heap.size,11,none⟩=some (int i64 fd):=Aa y0 11 rfl;have b12:w5.cell? ⟨w.heap.size,12,none⟩=some (int i64 tn):=Aa y0 12 rfl;have b13:w5.cell? ⟨w.heap.size,13,none⟩=some (int i64 td):=Aa y0 13 rfl;clear y0 y1 y2 e0 e1 e2 e3;have hI:w.heap.size<w5.heap.size:=by omega
            have hJ:gs+2<w5.heap.size:=by omega
            clear hD
            cases hA:Bs fn fd with
            | false =>
             rw [Ng (Or.inr hA)];go_wp2_with fail;go_ret;exact ⟨AG (Ci (by unfold Ec;rw [hA];simp)),hC.out⟩
            | true =>
             have HA:=qh hA;clear hA;rw [Kf (by decide) HA.out];rcases Int.lt_trichotomy fn 0 with h|h|h
             ·have hc:CW (0*fd) (fn*1)=1:=JQ (by omega)
              rw [hc];have HH:=qh h;clear h hc;go_wp2_with fail;go_ret;exact ⟨AG (Ci (by unfold Ec;rw [decide_eq_false (show ¬0≤fn by have:=HH.out;omega)];simp)),hC.out⟩
             ·have hO:=Od (by rw [← h];exact HA.out)
              have hc:CW (0*fd) (fn*1)=0:=JP (by omega);rw [hc];have f1:((0:Int)==fn)=true:=by simpa using h.symm
              have f2:((1:Int)==fd)=true:=by simpa using hO.symm
              have HH:=qh h;have hj:=qh hO;clear h hc hO;have hq:=Ej 0 1 fn fd;have hY:=Ej fn fd tn td;by_cases hw:(fn==tn&&fd==td)=true
              ·have HW:=qh hw
               go_wp2_with fail;go_ret;exact ⟨AG (Ci (Si HW.out)),hC.out⟩
              ·have hl:(fn==tn&&fd==td)=false:=by simpa using hw
               clear hw;go_wp2_with fail;go_roundw
               case rel=>exact ⟨1,rfl,Or.inr (Or.inl ⟨rfl,HA.out,by have:=HH.out;omega⟩),Y0,Y1,hI,hJ,hC⟩
               case measure=>simp [intOf]
             ·have hc:CW (0*fd) (fn*1)=-1:=JR (by omega)
              rw [hc];have HH:=qh h;clear h hc;go_wp2_with fail;go_roundw
              case rel=>exact ⟨1,rfl,Or.inr (Or.inl ⟨rfl,HA.out,by have:=HH.out;omega⟩),Y0,Y1,hI,hJ,hC⟩
              case measure=>simp [intOf]
           ·have HS:=qh hs;clear hs
            have e0:wr.cell? ⟨gs+2,4,none⟩=some (int i64 fn):=Aa hB.out 4 rfl;have e1:wr.cell? ⟨gs+2,5,none⟩=some (int i64 fd):=Aa hB.out 5 rfl;have e2:wr.cell? ⟨gs+2,6,none⟩=some (int i64 tn):=Aa hB.out 6 rfl;have e3:wr.cell? ⟨gs+2,7,none⟩=some (int i64 td):=Aa hB.out 7 rfl;have x0:=(Below.heap_alloc wr (.cells #[int i64 fn,int i64 fd,int i64 tn,int i64 td] 106) w.heap.size hM).trans hK.out;have x1:=(Below.heap_alloc wr (.cells #[int i64 fn,int i64 fd,int i64 tn,int i64 td] 106) (gs+2) hN).trans hB.out;have x2:=heap_alloc_new wr (.cells #[int i64 fn,int i64 fd,int i64 tn,int i64 td] 106);have x3:Below w.heap.size w (wr.alloc (.cells #[int i64 fn,int i64 fd,int i64 tn,int i64 td] 106)):=hH.out.alloc (by omega) _;have x4:(wr.alloc (.cells #[int i64 fn,int i64 fd,int i64 tn,int i64 td] 106)).heap.size=wr.heap.size+1:=by simp
            have X0:=qh x0;have X1:=qh x1;have X2:=qh x2;have X3:=qh x3;have X4:=qh x4;clear x0 x1 x2 x3 x4;go_wp2_with fail;refine (Eo fn fd tn td _).mono ?_;rintro e w5 ⟨rfl,b5⟩;have hD:=b5.size;rw [X4.out] at hD;have y0:=(b5.block _ (by rw [X4.out];omega)).trans X0.out;have y1:=(b5.block _ (by rw [X4.out];omega)).trans X1.out;have y2:=(b5.block _ (by rw [X4.out];omega)).trans X2.out;have hC:=qh (X3.out.trans (b5.mono (by rw [X4.out];omega)));have Y0:=qh y0;have Y1:=qh y1;clear b5 X0 X1 X2 X3 X4 hK hB hH;generalize wr.heap.size=gw at *;have l0:w5.cell? ⟨gw,0,none⟩=some (int i64 fn):=Aa y2 0 rfl;have l1:w5.cell? ⟨gw,1,none⟩=some (int i64 fd):=Aa y2 1 rfl;have l2:w5.cell? ⟨gw,2,none⟩=some (int i64 tn):=Aa y2 2 rfl;have l3:w5.cell? ⟨gw,3,none⟩=some (int i64 td):=Aa y2 3 rfl;have b10:w5.cell? ⟨w.heap.size,10,none⟩=some (int i64 fn):=Aa y0 10 rfl;have b11:w5.cell? ⟨w.heap.size,11,none⟩=some (int i64 fd):=Aa y0 11 rfl;have b12:w5.cell? ⟨w.heap.size,12,none⟩=some (int i64 tn):=Aa y0 12 rfl;have b13:w5.cell? ⟨w.heap.size,13,none⟩=some (int i64 td):=Aa y0 13 rfl;clear y0 y1 y2 e0 e1 e2 e3;have hI:w.heap.size<w5.heap.size:=by omega
            have hJ:gs+2<w5.heap.size:=by omega
            clear hD
            cases hA:Bs tn td with
            | false =>
             rw [Ng (Or.inr hA)];go_wp2_with fail;go_ret;exact ⟨AG (Ci (by unfold Ec;rw [hA];simp)),hC.out⟩
            | true =>
             have HA:=qh hA;clear hA;rw [Kf HS.out.1 HA.out];rcases Int.lt_trichotomy (fn*td) (tn*fd) with h|h|h
             ·have hc:CW (fn*td) (tn*fd)=-1:=JR h
              rw [hc];have HH:=qh h;clear h hc;go_wp2_with fail;go_roundw
              case rel=>exact ⟨2,rfl,Or.inr (Or.inr (Or.inl ⟨rfl,HS.out.1,HA.out,HS.out.2,HH.out⟩)),Y0,Y1,hI,hJ,hC⟩
              case measure=>simp [intOf]
             ·have hc:CW (fn*td) (tn*fd)=0:=JP h
              rw [hc];have HH:=qh h;clear h hc;have hq:=Ej fn fd fn fd;have hY:=Ej tn td tn td;go_wp2_with fail;go_ret;exact ⟨AG (Ci (by unfold Ec;rw [decide_eq_false (show ¬fn*td<tn*fd by rw [HH.out];exact Int.lt_irrefl _)];simp)),hC.out⟩
             ·have hc:CW (fn*td) (tn*fd)=1:=JQ h
              rw [hc];have HH:=qh h;clear h hc;go_wp2_with fail;go_ret;exact ⟨AG (Ci (by unfold Ec;rw [decide_eq_false (show ¬fn*td<tn*fd from Int.not_lt.2 (Int.le_of_lt HH.out))];simp)),hC.out⟩
           ·have HS:=qh hs;clear hs
            have e0:wr.cell? ⟨gs+2,8,none⟩=some (int i64 tn):=Aa hB.out 8 rfl;have e1:wr.cell? ⟨gs+2,9,none⟩=some (int i64 td):=Aa hB.out 9 rfl;have e2:wr.cell? ⟨gs+2,10,none⟩=some (int i64 1):=Aa hB.out 10 rfl;have e3:wr.cell? ⟨gs+2,11,none⟩=some (int i64 1):=Aa hB.out 11 rfl;have x0:=(Below.heap_alloc wr (.cells #[int i64 tn,int i64 td,int i64 1,int i64 1] 106) w.heap.size hM).trans hK.out;have x1:=(Below.heap_alloc wr (.cells #[int i64 tn,int i64 td,int i64 1,int i64 1] 106) (gs+2) hN).trans hB.out;have x2:=heap_alloc_new wr (.cells #[int i64 tn,int i64 td,int i64 1,int i64 1] 106);have x3:Below w.heap.size w (wr.alloc (.cells #[int i64 tn,int i64 td,int i64 1,int i64 1] 106)):=hH.out.alloc (by omega) _;have x4:(wr.alloc (.cells #[int i64 tn,int i64 td,int i64 1,int i64 1] 106)).heap.size=wr.heap.size+1:=by simp
            have X0:=qh x0;have X1:=qh x1;have X2:=qh x2;have X3:=qh x3;have X4:=qh x4;clear x0 x1 x2 x3 x4;go_wp2_with fail;refine (Eo tn td 1 1 _).mono ?_;rintro e w5 ⟨rfl,b5⟩;have hD:=b5.size;rw [X4.out] at hD;have y0:=(b5.block _ (by rw [X4.out];omega)).trans X0.out;have y1:=(b5.block _ (by rw [X4.out];omega)).trans X1.out;have y2:=(b5.block _ (by rw [X4.out];omega)).trans X2.out;have hC:=qh (X3.out.trans (b5.mono (by rw [X4.out];omega)));have Y0:=qh y0;have Y1:=qh y1;clear b5 X0 X1 X2 X3 X4 hK hB hH;generalize wr.heap.size=gw at *;have l0:w5.cell? ⟨gw,0,none⟩=some (int i64 tn):=Aa y2 0 rfl;have l1:w5.cell? ⟨gw,1,none⟩=some (int i64 td):=Aa y2 1 rfl;have l2:w5.cell? ⟨gw,2,none⟩=some (int i64 1):=Aa y2 2 rfl;have l3:w5.cell? ⟨gw,3,none⟩=some (int i64 1):=Aa y2 3 rfl;have b10:w5.cell? ⟨w.heap.size,10,none⟩=some (int i64 fn):=Aa y0 10 rfl;have b11:w5.cell? ⟨w.heap.size,11,none⟩=some (int i64 fd):=Aa y0 11 rfl;have b12:w5.cell? ⟨w.heap.size,12,none⟩=some (int i64 tn):=Aa y0 12 rfl;have b13:w5.cell? ⟨w.heap.size,13,none⟩=some (int i64 td):=Aa y0 13 rfl;clear y0 y1 y2 e0 e1 e2 e3;have hI:w.heap.size<w5.heap.size:=by omega
            have hJ:gs+2<w5.heap.size:=by omega
            clear hD;rw [Kf HS.out.2.1 (by decide)];rcases Int.lt_trichotomy tn td with h|h|h
            ·have hc:CW (tn*1) (1*td)=-1:=JR (by omega)
             rw [hc];have HH:=qh h;clear h hc;go_wp2_with fail;go_roundw
             case rel=>exact ⟨3,rfl,Or.inr (Or.inr (Or.inr ⟨rfl,HS.out.1,HS.out.2.1,HS.out.2.2.1,HS.out.2.2.2,by have:=HH.out;omega⟩)),Y0,Y1,hI,hJ,hC⟩
             case measure=>simp [intOf]
            ·have hc:CW (tn*1) (1*td)=0:=JP (by omega)
             rw [hc];have HH:=qh h;clear h hc;have hq:=Ej tn td fn fd;have hZ:(tn==fn&&td==fd)=false:=Sj HS.out.2.2.2;have hm:=qh hZ;go_wp2_with fail;go_roundw
             case rel=>exact ⟨3,rfl,Or.inr (Or.inr (Or.inr ⟨rfl,HS.out.1,HS.out.2.1,HS.out.2.2.1,HS.out.2.2.2,by have:=HH.out;omega⟩)),Y0,Y1,hI,hJ,hC⟩
             case measure=>simp [intOf]
            ·have hc:CW (tn*1) (1*td)=1:=JQ (by omega)
             rw [hc];have HH:=qh h;clear h hc;go_wp2_with fail;go_ret;exact ⟨AG (Ci (by unfold Ec;rw [decide_eq_false (show ¬tn≤td by have:=HH.out;omega)];simp)),hC.out⟩
           ·have HS:=qh hs;clear hs
            go_wp2_with fail;go_ret;exact ⟨AG (by unfold D9;rw [H1.out,H2.out,H3.out,H4.out,HF.out,Sk HS.out];rfl),hH.out⟩
theorem IF(d n:Int):Nat.gcd n.natAbs (d.tmod n).natAbs=Nat.gcd d.natAbs n.natAbs:=by
 rw [Int.natAbs_tmod,Nat.gcd_comm n.natAbs,← Nat.gcd_rec,Nat.gcd_comm]
theorem Ko(d n:Int)(h:n≠0):(d.tmod n).natAbs<n.natAbs:=by
 rw [Int.natAbs_tmod];exact Nat.mod_lt _ (by omega)
theorem Ef{d n:Int}(h1:-1073741824≤d)(h2:d≤1073741824):-1073741824≤d.tmod n∧d.tmod n≤1073741824:=by
 have:(d.tmod n).natAbs≤d.natAbs:=by rw [Int.natAbs_tmod];exact Nat.mod_le _ _
 omega
theorem LW(g:Nat)(A B C:Int)(w:World)(hA:-1073741824≤A∧A≤1073741824)(hB:-1073741824≤B∧B≤1073741824)(hC:-1073741824≤C∧C≤1073741824)(hg:w.heap[g]?=some (.cells #[int i64 A,int i64 B,int i64 C] 3 (0,0))) :
  Calls Tryd.prog 55 #[.slice (some ⟨g,0,none⟩) 3 3] w λe w'=>e=.returned (int i64 ((Nat.gcd (Nat.gcd A.natAbs B.natAbs) C.natAbs:Nat):Int))∧∃k,w'=w.drewN k:=by
 have HG:=qh hg;clear hg;go_enter Tryd.func55,Tryd.ntmps55;go_wp2_with fail
 go_loopw [2,7] (λdv iv wr=>∃(z d:Int) (k:Nat),iv=int i64 z∧dv=int i64 d∧-1073741824≤d∧d≤1073741824∧wr=w.drewN k ∧
   ((z=0∧d=0)∨(z=1∧Hid (d.natAbs=A.natAbs))∨(z=2∧Hid (d.natAbs=Nat.gcd A.natAbs B.natAbs))∨(z=3∧Hid (d.natAbs=Nat.gcd (Nat.gcd A.natAbs B.natAbs) C.natAbs)))) (λ_ iv _=>(3-intOf iv).toNat)
 case atStart=>exact ⟨0,0,0,rfl,rfl,by omega,by omega,rfl,Or.inl ⟨rfl,rfl⟩⟩
 case round =>
  obtain ⟨z,d,k,rfl,rfl,hF,hG,rfl,hz⟩:=hrel;rcases hz with ⟨rfl,rfl⟩|⟨rfl,hd⟩|⟨rfl,hd⟩|⟨rfl,hd⟩
  ·have e0:(w.drewN k).cell? ⟨g,0,none⟩=some (int i64 A):=Aa HG.out 0 rfl
   have hD:=hA.1;have hE:=hA.2;go_wp2_with fail;clear e0;go_loopw [2,4] (λdv nv wr=>∃(d n:Int) (k:Nat),dv=int i64 d∧nv=int i64 n∧-1073741824≤d∧d≤1073741824∧-1073741824≤n∧n≤1073741824∧wr=w.drewN k∧Hid (Nat.gcd d.natAbs n.natAbs=A.natAbs)) (λ_ nv _=>(intOf nv).natAbs)
   case atStart=>exact ⟨_,_,k,rfl,rfl,by omega,by omega,hD,hE,rfl,qh (by rw [show (0:Int).natAbs=0 from rfl,Nat.gcd_zero_left])⟩
   case round =>
    clear hD hE hF hG;obtain ⟨d,n,k,rfl,rfl,hF,hG,hK,hL,rfl,hH⟩:=hrel;by_cases hn:n=0
    ·have f1:(n != 0)=false:=by simpa using hn
     have hM:=qh hn;clear hn;go_wp2_with fail;go_roundw
     case rel=>exact ⟨1,d,k,by go_num,rfl,hF,hG,rfl,Or.inr (Or.inl ⟨rfl,qh (by have h1:=hH.out;rw [hM.out,show (0:Int).natAbs=0 from rfl,Nat.gcd_zero_right] at h1;exact h1)⟩)⟩
     case measure=>simp [intOf]
    ·have f1:(n != 0)=true:=by simpa using hn
     have hI:=Ko d n hn;have hb:=Ef hF hG (n:=n);have hD:=hb.1;have hE:=hb.2;have hJ:IntKind.i64.wrap (d.tmod n)=d.tmod n:=IntWalk.i64_in _ (by omega);have HW:=qh hJ;have hN:=qh hI;clear hb hJ hI;generalize hm:d.tmod n=m at *;have HM:=qh hm;clear hm;go_wp2_with fail;go_quiet (fail)
     try rw [HM.out]
     try rw [HW.out]
     go_wp2_with fail;go_roundw
     case rel=>exact ⟨n,m,k+nq,rfl,rfl,hK,hL,hD,hE,by simp,qh (by rw [← HM.out,IF];exact hH.out)⟩
     case measure=>simp [intOf];exact hN.out
  ·have e0:(w.drewN k).cell? ⟨g,1,none⟩=some (int i64 B):=Aa HG.out 1 rfl
   have hD:=hB.1;have hE:=hB.2;go_wp2_with fail;clear e0;go_loopw [2,4] (λdv nv wr=>∃(d n:Int) (k:Nat),dv=int i64 d∧nv=int i64 n∧-1073741824≤d∧d≤1073741824∧-1073741824≤n∧n≤1073741824∧wr=w.drewN k∧Hid (Nat.gcd d.natAbs n.natAbs=Nat.gcd A.natAbs B.natAbs)) (λ_ nv _=>(intOf nv).natAbs)
   case atStart=>exact ⟨_,_,k,rfl,rfl,by omega,by omega,hD,hE,rfl,qh (by rw [hd.out])⟩
   case round =>
    clear hD hE hF hG hd;obtain ⟨d,n,k,rfl,rfl,hF,hG,hK,hL,rfl,hH⟩:=hrel;by_cases hn:n=0
    ·have f1:(n != 0)=false:=by simpa using hn
     have hM:=qh hn;clear hn;go_wp2_with fail;go_roundw
     case rel=>exact ⟨2,d,k,by go_num,rfl,hF,hG,rfl,Or.inr (Or.inr (Or.inl ⟨rfl,qh (by have h1:=hH.out;rw [hM.out,show (0:Int).natAbs=0 from rfl,Nat.gcd_zero_right] at h1;exact h1)⟩))⟩
     case measure=>simp [intOf]
    ·have f1:(n != 0)=true:=by simpa using hn
     have hI:=Ko d n hn;have hb:=Ef hF hG (n:=n);have hD:=hb.1;have hE:=hb.2;have hJ:IntKind.i64.wrap (d.tmod n)=d.tmod n:=IntWalk.i64_in _ (by omega);have HW:=qh hJ;have hN:=qh hI;clear hb hJ hI;generalize hm:d.tmod n=m at *;have HM:=qh hm;clear hm;go_wp2_with fail;go_quiet (fail)
     try rw [HM.out]
     try rw [HW.out]
     go_wp2_with fail;go_roundw
     case rel=>exact ⟨n,m,k+nq,rfl,rfl,hK,hL,hD,hE,by simp,qh (by rw [← HM.out,IF];exact hH.out)⟩
     case measure=>simp [intOf];exact hN.out
  ·have e0:(w.drewN k).cell? ⟨g,2,none⟩=some (int i64 C):=Aa HG.out 2 rfl
   have hD:=hC.1;have hE:=hC.2;go_wp2_with fail;clear e0;go_loopw [2,4] (λdv nv wr=>∃(d n:Int) (k:Nat),dv=int i64 d∧nv=int i64 n∧-1073741824≤d∧d≤1073741824∧-1073741824≤n∧n≤1073741824∧wr=w.drewN k∧Hid (Nat.gcd d.natAbs n.natAbs=Nat.gcd (Nat.gcd A.natAbs B.natAbs) C.natAbs)) (λ_ nv _=>(intOf nv).natAbs)
   case atStart=>exact ⟨_,_,k,rfl,rfl,by omega,by omega,hD,hE,rfl,qh (by rw [hd.out])⟩
   case round =>
    clear hD hE hF hG hd;obtain ⟨d,n,k,rfl,rfl,hF,hG,hK,hL,rfl,hH⟩:=hrel;by_cases hn:n=0
    ·have f1:(n != 0)=false:=by simpa using hn
     have hM:=qh hn;clear hn;go_wp2_with fail;go_roundw
     case rel=>exact ⟨3,d,k,by go_num,rfl,hF,hG,rfl,Or.inr (Or.inr (Or.inr ⟨rfl,qh (by have h1:=hH.out;rw [hM.out,show (0:Int).natAbs=0 from rfl,Nat.gcd_zero_right] at h1;exact h1)⟩))⟩
     case measure=>simp [intOf]
    ·have f1:(n != 0)=true:=by simpa using hn
     have hI:=Ko d n hn;have hb:=Ef hF hG (n:=n);have hD:=hb.1;have hE:=hb.2;have hJ:IntKind.i64.wrap (d.tmod n)=d.tmod n:=IntWalk.i64_in _ (by omega);have HW:=qh hJ;have hN:=qh hI;clear hb hJ hI;generalize hm:d.tmod n=m at *;have HM:=qh hm;clear hm;go_wp2_with fail;go_quiet (fail)
     try rw [HM.out]
     try rw [HW.out]
     go_wp2_with fail;go_roundw
     case rel=>exact ⟨n,m,k+nq,rfl,rfl,hK,hL,hD,hE,by simp,qh (by rw [← HM.out,IF];exact hH.out)⟩
     case measure=>simp [intOf];exact hN.out
  ·go_wp2_with fail
   all_goals
    go_ret;exact ⟨AT (by rw [← hd.out];omega),k,rfl⟩
theorem JV{w:World}{g:Nat}{xs:Array Value}{t:TypeId}(h:w.heap[g]?=some (.cells xs t (0,0)))(r:Nat):w.frozen? ⟨g,r,none⟩=false:=by
 simp [World.frozen?,h]
def Dg(a b c:Int):Int:=((Nat.gcd (Nat.gcd a.natAbs b.natAbs) c.natAbs:Nat):Int)
theorem Ii(A B C:Int)(w:World)(hA:-1073741824≤A∧A≤1073741824)(hB:-1073741824≤B∧B≤1073741824)(hC:1≤C∧C≤1073741824) :
  Calls Tryd.prog 34 #[.agg #[int i64 A,int i64 B,int i64 C]] w λe w'=>e=.returned (.agg #[int i64 (A.tdiv (Dg A B C)),int i64 (B.tdiv (Dg A B C)),int i64 (C / Dg A B C)])∧Below w.heap.size w w':=by
 have hJ:1≤Dg A B C:=by
  unfold Dg;have:0<Nat.gcd (Nat.gcd A.natAbs B.natAbs) C.natAbs:=Nat.gcd_pos_of_pos_right _ (by omega);omega
 have hD:=λ(g:Nat) (w:World) hg=>LW g A B C w hA hB ⟨by omega,hC.2⟩ hg
 have HC:=qh hD;clear hD;obtain ⟨g0,g1,g2,hz,b0⟩:=QV w (.cells #[int i64 A,int i64 B,int i64 C] 23) (.cells #[int i64 0,int i64 0,int i64 0] 23) (.cells #[int i64 A,int i64 B,int i64 C] 3);go_enter Tryd.func34,Tryd.ntmps34;go_wp2_with fail;generalize (((w.alloc (.cells #[int i64 A,int i64 B,int i64 C] 23)).alloc (.cells #[int i64 0,int i64 0,int i64 0] 23)).alloc (.cells #[int i64 A,int i64 B,int i64 C] 3))=w0 at *;refine (HC.out (w.heap.size+1+1) w0 g2).mono ?_;rintro e w1 ⟨rfl,k,rfl⟩;have hE:((Nat.gcd (Nat.gcd A.natAbs B.natAbs) C.natAbs:Nat):Int)=Dg A B C:=rfl;rw [hE];have hG:=qh (Ak b0 k);have k0:(w0.drewN k).heap[w.heap.size]?=some (.cells #[int i64 A,int i64 B,int i64 C] 23 (0,0)):=g0;have k1:(w0.drewN k).heap[w.heap.size+1]?=some (.cells #[int i64 0,int i64 0,int i64 0] 23 (0,0)):=g1;have hK:w.heap.size+1<(w0.drewN k).heap.size:=by show w.heap.size+1<w0.heap.size;omega
 clear g0 g1 g2 hz b0 hE;generalize w0.drewN k=w2 at *;have c0:=Aa k0 0 rfl;have c1:=Aa k0 1 rfl;have c2:=Aa k0 2 rfl;have d0:=Aa k1 0 rfl;have d1:=Aa k1 1 rfl;have d2:=Aa k1 2 rfl;have q0:=JV k1 0;have q1:=JV k1 1;have q2:=JV k1 2;generalize hF:Dg A B C=G at *;have hH:=qh hF;clear hF;have hL:¬G=0:=by omega
 have K1:=qh k1;clear k0 k1;go_wp2_with fail;go_region
 all_goals
  go_wp2;have hI:=qh ((((hG.out.setCell (p:=⟨w.heap.size+1,0,none⟩) (by show w.heap.size≤w.heap.size+1;omega) (int i64 (A.tdiv G))).setCell (p:=⟨w.heap.size+1,1,none⟩) (by show w.heap.size≤w.heap.size+1;omega) (int i64 (B.tdiv G))).setCell (p:=⟨w.heap.size+1,2,none⟩) (by show w.heap.size≤w.heap.size+1;omega) (int i64 (C / G))).drew);refine bodyPost_ret (v:=.agg #[int i64 (A.tdiv G),int i64 (B.tdiv G),int i64 (C / G)]) ?_ rfl ⟨by rw [hH.out],hI.out⟩;simp [results,Tryd.results34,go_sem,d0,d1,d2]
theorem R9(a b c d e f:Int)(w:World):(binOp .neq 23 (.agg #[int i64 a,int i64 b,int i64 c]) (.agg #[int i64 d,int i64 e,int i64 f])).run Tryd.prog w=.ok (.bool (!(a==d&&b==e&&c==f))) w:=by
 have u3:=Tryd.underlying3;have a3:=Tryd.isAgg3;have z3:=Tryd.sizeOf3;have hS:Tryd.prog.underlying 23=some (.struct (Tryd.prog.fieldsOf 23)):=by kernel_rfl
 have hp:Tryd.prog.stoodInHeld 23=false:=by kernel_rfl
 rw [run_neq_struct,show (10000:Nat)=9999+1 from rfl,run_equalIn_agg w 9999 23 _ _ hS hp];simp only [Program.fieldsOf,Tryd.underlying23];go_simp;by_cases h1:a=d<;>by_cases h2:b=e<;>by_cases h3:c=f<;>simp [h1,h2,h3]
theorem Vp{a b c:Int}(h:c<1∨32768<c):EO a b c=false:=by unfold EO;rw [C3.2 h];rfl
theorem JE{a b c:Int}(h:a < -c∨c<a∨b < -c∨c<b):EO a b c=false:=by
 unfold EO;rcases h with h|h|h|h
 ·rw [C3.2 (show a < -c∨_ from Or.inl h)];simp
 ·rw [C3.2 (show _∨c<a from Or.inr h)];simp
 ·rw [C3.2 (show b < -c∨_ from Or.inl h)];simp
 ·rw [C3.2 (show _∨c<b from Or.inr h)];simp
theorem ML{a b c:Int}(h:¬a*a+b*b=c*c):EO a b c=false:=by unfold EO;rw [decide_eq_false h];simp
theorem Su(A B C:Int)(h:C<1∨32768<C)(w:World):Calls Tryd.prog 17 #[.agg #[int i64 A,int i64 B,int i64 C]] w λe w'=>e=.returned (int i64 140)∧Below w.heap.size w w':=by
 by_cases h1:C<1
 ·clear h
  go_enter Tryd.func17,Tryd.ntmps17;go_wp2_with fail;go_quiet (fail);go_wp2;go_ret;exact ⟨rfl,Ak ((Below.refl _ _).alloc (qn _) _) _⟩
 ·have f1:decide (C<1)=false:=by simpa using h1
  have h2:32768<C:=by omega
  clear h h1;go_enter Tryd.func17,Tryd.ntmps17;go_wp2_with fail;go_quiet (fail);go_wp2;go_ret;exact ⟨rfl,Ak ((Below.refl _ _).alloc (qn _) _) _⟩
theorem CF{a:Int}(h1:-32768≤a)(h2:a≤32768):0≤a*a∧a*a≤1073741824:=by
 have hx:(a*a).natAbs≤1073741824:=by
  rw [Int.natAbs_mul]
  calc a.natAbs*a.natAbs≤32768*32768:=Nat.mul_le_mul (by omega) (by omega)
   _=1073741824:=by decide
 have h0:0≤a*a:=by
  rcases Int.le_total 0 a with h|h
  ·exact Int.mul_nonneg h h
  ·exact Int.mul_nonneg_of_nonpos_of_nonpos h h
 omega
theorem Pw{a b c:Int}(hc:1≤c):((a.tdiv (Dg a b c)==a&&b.tdiv (Dg a b c)==b&&c / Dg a b c==c))=decide (Nat.gcd (Nat.gcd a.natAbs b.natAbs) c.natAbs=1):=by
 by_cases h:Nat.gcd (Nat.gcd a.natAbs b.natAbs) c.natAbs=1
 ·have:Dg a b c=1:=by unfold Dg;omega
  rw [this,decide_eq_true h];simp
 ·rw [decide_eq_false h]
  have hp:0<Nat.gcd (Nat.gcd a.natAbs b.natAbs) c.natAbs:=Nat.gcd_pos_of_pos_right _ (by omega);have h2:2≤Dg a b c:=by unfold Dg;omega
  have:¬c / Dg a b c=c:=by
   intro e;have h3:Dg a b c*(c / Dg a b c)≤c:=Int.mul_ediv_self_le (by omega);rw [e] at h3;have:2*c≤Dg a b c*c:=Int.mul_le_mul_of_nonneg_right h2 (by omega);omega
  simp [this]
theorem Kq{a b c:Int}(h1:1≤c)(h2:c≤32768)(h3:-c≤a)(h4:a≤c)(h5:-c≤b)(h6:b≤c)(h7:a*a+b*b=c*c):EO a b c=decide (Nat.gcd (Nat.gcd a.natAbs b.natAbs) c.natAbs=1):=by
 unfold EO;rw [AM.2 ⟨h1,h2⟩,AM.2 ⟨h3,h4⟩,AM.2 ⟨h5,h6⟩,decide_eq_true h7];rfl
theorem Ly(A B C:Int)(hA:1≤C)(hB:C≤32768)(ho:A<B)(h:A < -C)(w:World):Calls Tryd.prog 17 #[.agg #[int i64 A,int i64 B,int i64 C]] w λe w'=>e=.returned (int i64 140)∧Below w.heap.size w w':=by
 have f1:decide (C<1)=false:=by simpa using by omega
 have f2:decide (32768<C)=false:=by simpa using by omega
 have m1:min A B=A:=by omega
 have m2:max A B=B:=by omega
 have m3:IntKind.i64.wrap (-C)=-C:=IntWalk.i64_in _ (by omega);go_enter Tryd.func17,Tryd.ntmps17;go_wp2_with fail;go_quiet (fail);go_wp2;go_ret;exact ⟨rfl,Ak ((Below.refl _ _).alloc (qn _) _) _⟩
theorem Lu(A B C:Int)(hA:1≤C)(hB:C≤32768)(ho:A<B)(h0:¬A < -C)(h:C<B)(w:World):Calls Tryd.prog 17 #[.agg #[int i64 A,int i64 B,int i64 C]] w λe w'=>e=.returned (int i64 140)∧Below w.heap.size w w':=by
 have f1:decide (C<1)=false:=by simpa using by omega
 have f2:decide (32768<C)=false:=by simpa using by omega
 have m1:min A B=A:=by omega
 have m2:max A B=B:=by omega
 have m3:IntKind.i64.wrap (-C)=-C:=IntWalk.i64_in _ (by omega);have f3:decide (A < -C)=false:=by simpa using h0
 go_enter Tryd.func17,Tryd.ntmps17;go_wp2_with fail;go_quiet (fail);go_wp2;go_ret;exact ⟨rfl,Ak ((Below.refl _ _).alloc (qn _) _) _⟩
theorem LB(A B C:Int)(hA:1≤C)(hB:C≤32768)(ho:A<B)(h0:¬A < -C)(h1:¬C<B)(h:¬A*A+B*B=C*C)(w:World):Calls Tryd.prog 17 #[.agg #[int i64 A,int i64 B,int i64 C]] w λe w'=>e=.returned (int i64 140)∧Below w.heap.size w w':=by
 have pa:=CF (a:=A) (by omega) (by omega);have pb:=CF (a:=B) (by omega) (by omega);have pc:=CF (a:=C) (by omega) (by omega);have f1:decide (C<1)=false:=by simpa using by omega
 have f2:decide (32768<C)=false:=by simpa using by omega
 have m1:min A B=A:=by omega
 have m2:max A B=B:=by omega
 have m3:IntKind.i64.wrap (-C)=-C:=IntWalk.i64_in _ (by omega);have f3:decide (A < -C)=false:=by simpa using h0
 have f4:decide (C<B)=false:=by simpa using h1
 have hC:IntKind.i64.wrap (A*A)=A*A:=IntWalk.i64_in _ (by omega);have hD:IntKind.i64.wrap (B*B)=B*B:=IntWalk.i64_in _ (by omega);have hE:IntKind.i64.wrap (C*C)=C*C:=IntWalk.i64_in _ (by omega);have hF:IntKind.i64.wrap (A*A+B*B)=A*A+B*B:=IntWalk.i64_in _ (by omega);have f5:(A*A+B*B != C*C)=true:=by simpa using h
 clear h h0 h1 pa pb pc;go_enter Tryd.func17,Tryd.ntmps17;go_wp2_with fail;go_quiet (fail);go_wp2;go_ret;exact ⟨rfl,Ak ((Below.refl _ _).alloc (qn _) _) _⟩
theorem Lw(A B C:Int)(hA:1≤C)(hB:C≤32768)(ho:A=B)(h:A < -C)(w:World):Calls Tryd.prog 17 #[.agg #[int i64 A,int i64 B,int i64 C]] w λe w'=>e=.returned (int i64 140)∧Below w.heap.size w w':=by
 subst ho;have f1:decide (C<1)=false:=by simpa using by omega
 have f2:decide (32768<C)=false:=by simpa using by omega
 have m1:min A A=A:=by omega
 have m2:max A A=A:=by omega
 have m3:IntKind.i64.wrap (-C)=-C:=IntWalk.i64_in _ (by omega);go_enter Tryd.func17,Tryd.ntmps17;go_wp2_with fail;go_quiet (fail);go_wp2;go_ret;exact ⟨rfl,Ak ((Below.refl _ _).alloc (qn _) _) _⟩
theorem Lq(A B C:Int)(hA:1≤C)(hB:C≤32768)(ho:A=B)(h0:¬A < -C)(h:C<A)(w:World):Calls Tryd.prog 17 #[.agg #[int i64 A,int i64 B,int i64 C]] w λe w'=>e=.returned (int i64 140)∧Below w.heap.size w w':=by
 subst ho;have f1:decide (C<1)=false:=by simpa using by omega
 have f2:decide (32768<C)=false:=by simpa using by omega
 have m1:min A A=A:=by omega
 have m2:max A A=A:=by omega
 have m3:IntKind.i64.wrap (-C)=-C:=IntWalk.i64_in _ (by omega);have f3:decide (A < -C)=false:=by simpa using h0
 go_enter Tryd.func17,Tryd.ntmps17;go_wp2_with fail;go_quiet (fail);go_wp2;go_ret;exact ⟨rfl,Ak ((Below.refl _ _).alloc (qn _) _) _⟩
theorem Lz(A B C:Int)(hA:1≤C)(hB:C≤32768)(ho:A=B)(h0:¬A < -C)(h1:¬C<A)(h:¬A*A+B*B=C*C)(w:World):Calls Tryd.prog 17 #[.agg #[int i64 A,int i64 B,int i64 C]] w λe w'=>e=.returned (int i64 140)∧Below w.heap.size w w':=by
 have pa:=CF (a:=A) (by omega) (by omega);have pb:=CF (a:=B) (by omega) (by omega);have pc:=CF (a:=C) (by omega) (by omega);subst ho;have f1:decide (C<1)=false:=by simpa using by omega
 have f2:decide (32768<C)=false:=by simpa using by omega
 have m1:min A A=A:=by omega
 have m2:max A A=A:=by omega
 have m3:IntKind.i64.wrap (-C)=-C:=IntWalk.i64_in _ (by omega);have f3:decide (A < -C)=false:=by simpa using h0
 have f4:decide (C<A)=false:=by simpa using h1
 have hC:IntKind.i64.wrap (A*A)=A*A:=IntWalk.i64_in _ (by omega);have hD:IntKind.i64.wrap (A*A)=A*A:=IntWalk.i64_in _ (by omega);have hE:IntKind.i64.wrap (C*C)=C*C:=IntWalk.i64_in _ (by omega);have hF:IntKind.i64.wrap (A*A+A*A)=A*A+A*A:=IntWalk.i64_in _ (by omega);have f5:(A*A+A*A != C*C)=true:=by simpa using h
 clear h h0 h1 pa pb pc;go_enter Tryd.func17,Tryd.ntmps17;go_wp2_with fail;go_quiet (fail);go_wp2;go_ret;exact ⟨rfl,Ak ((Below.refl _ _).alloc (qn _) _) _⟩
theorem Lx(A B C:Int)(hA:1≤C)(hB:C≤32768)(ho:B<A)(h:B < -C)(w:World):Calls Tryd.prog 17 #[.agg #[int i64 A,int i64 B,int i64 C]] w λe w'=>e=.returned (int i64 140)∧Below w.heap.size w w':=by
 have f1:decide (C<1)=false:=by simpa using by omega
 have f2:decide (32768<C)=false:=by simpa using by omega
 have m1:min A B=B:=by omega
 have m2:max A B=A:=by omega
 have m3:IntKind.i64.wrap (-C)=-C:=IntWalk.i64_in _ (by omega);go_enter Tryd.func17,Tryd.ntmps17;go_wp2_with fail;go_quiet (fail);go_wp2;go_ret;exact ⟨rfl,Ak ((Below.refl _ _).alloc (qn _) _) _⟩
theorem Lr(A B C:Int)(hA:1≤C)(hB:C≤32768)(ho:B<A)(h0:¬B < -C)(h:C<A)(w:World):Calls Tryd.prog 17 #[.agg #[int i64 A,int i64 B,int i64 C]] w λe w'=>e=.returned (int i64 140)∧Below w.heap.size w w':=by
 have f1:decide (C<1)=false:=by simpa using by omega
 have f2:decide (32768<C)=false:=by simpa using by omega
 have m1:min A B=B:=by omega
 have m2:max A B=A:=by omega
 have m3:IntKind.i64.wrap (-C)=-C:=IntWalk.i64_in _ (by omega);have f3:decide (B < -C)=false:=by simpa using h0
 go_enter Tryd.func17,Tryd.ntmps17;go_wp2_with fail;go_quiet (fail);go_wp2;go_ret;exact ⟨rfl,Ak ((Below.refl _ _).alloc (qn _) _) _⟩
theorem LA(A B C:Int)(hA:1≤C)(hB:C≤32768)(ho:B<A)(h0:¬B < -C)(h1:¬C<A)(h:¬A*A+B*B=C*C)(w:World):Calls Tryd.prog 17 #[.agg #[int i64 A,int i64 B,int i64 C]] w λe w'=>e=.returned (int i64 140)∧Below w.heap.size w w':=by
 have pa:=CF (a:=A) (by omega) (by omega);have pb:=CF (a:=B) (by omega) (by omega);have pc:=CF (a:=C) (by omega) (by omega);have f1:decide (C<1)=false:=by simpa using by omega
 have f2:decide (32768<C)=false:=by simpa using by omega
 have m1:min A B=B:=by omega
 have m2:max A B=A:=by omega
 have m3:IntKind.i64.wrap (-C)=-C:=IntWalk.i64_in _ (by omega);have f3:decide (B < -C)=false:=by simpa using h0
 have f4:decide (C<A)=false:=by simpa using h1
 have hC:IntKind.i64.wrap (A*A)=A*A:=IntWalk.i64_in _ (by omega);have hD:IntKind.i64.wrap (B*B)=B*B:=IntWalk.i64_in _ (by omega);have hE:IntKind.i64.wrap (C*C)=C*C:=IntWalk.i64_in _ (by omega);have hF:IntKind.i64.wrap (A*A+B*B)=A*A+B*B:=IntWalk.i64_in _ (by omega);have f5:(A*A+B*B != C*C)=true:=by simpa using h
 clear h h0 h1 pa pb pc;go_enter Tryd.func17,Tryd.ntmps17;go_wp2_with fail;go_quiet (fail);go_wp2;go_ret;exact ⟨rfl,Ak ((Below.refl _ _).alloc (qn _) _) _⟩
def T5(A B C:Int)(g:Nat)(W:World):World→Prop:=λw2=>w2.cell? ⟨g,0,none⟩=some (int i64 A)∧w2.cell? ⟨g,1,none⟩=some (int i64 B)∧w2.cell? ⟨g,2,none⟩=some (int i64 C)∧Below g W w2∧g<w2.heap.size
theorem F9(A B C x y z:Int)(g:Nat)(W w:World)(hl:∀w,Calls Tryd.prog 34 #[.agg #[int i64 A,int i64 B,int i64 C]] w λe w'=>e=.returned (.agg #[int i64 x,int i64 y,int i64 z])∧Below w.heap.size w w')
  (h:w.cell? ⟨g,0,none⟩=some (int i64 A)∧w.cell? ⟨g,1,none⟩=some (int i64 B)∧w.cell? ⟨g,2,none⟩=some (int i64 C)∧Below g W w∧g<w.heap.size) :
  Calls Tryd.prog 34 #[.agg #[int i64 A,int i64 B,int i64 C]] w λe w'=>e=.returned (.agg #[int i64 x,int i64 y,int i64 z])∧(w'.cell? ⟨g,0,none⟩=some (int i64 A)∧w'.cell? ⟨g,1,none⟩=some (int i64 B)∧w'.cell? ⟨g,2,none⟩=some (int i64 C)∧Below g W w'∧g<w'.heap.size) :=
 (hl w).mono λ_ _ ⟨he,hx⟩=>⟨he,(hx.cell (p:=⟨g,0,none⟩) h.2.2.2.2).trans h.1,(hx.cell (p:=⟨g,1,none⟩) h.2.2.2.2).trans h.2.1,(hx.cell (p:=⟨g,2,none⟩) h.2.2.2.2).trans h.2.2.1,h.2.2.2.1.trans (hx.mono (Nat.le_of_lt h.2.2.2.2)),Nat.lt_of_lt_of_le h.2.2.2.2 hx.size⟩
theorem Gb(A B C:Int)(hA:1≤C)(h1:-1073741824≤A∧A≤1073741824)(h2:-1073741824≤B∧B≤1073741824)(h3:C≤1073741824):∃(x y z:Int) (bc:Bool),(∀w,Calls Tryd.prog 34 #[.agg #[int i64 A,int i64 B,int i64 C]] w λe w'=>e=.returned (.agg #[int i64 x,int i64 y,int i64 z])∧Below w.heap.size w w') ∧
  (∀w,(binOp .neq 23 (.agg #[int i64 x,int i64 y,int i64 z]) (.agg #[int i64 A,int i64 B,int i64 C])).run Tryd.prog w=.ok (.bool bc) w)∧bc=!decide (Nat.gcd (Nat.gcd A.natAbs B.natAbs) C.natAbs=1):=by
 refine ⟨A.tdiv (Dg A B C),B.tdiv (Dg A B C),C / Dg A B C,_,λw=>Ii A B C w (by omega) (by omega) (by omega),λw=>R9 _ _ _ _ _ _ w,?_⟩;rw [Pw hA]
theorem LE(A B C:Int)(hC:1≤C)(hF:C≤32768)(ho:A<B)(h0:¬A < -C)(h1:¬C<B)(h:A*A+B*B=C*C)(w:World):Calls Tryd.prog 17 #[.agg #[int i64 A,int i64 B,int i64 C]] w λe w'=>e=.returned (int i64 (Dd (EO A B C) 140))∧Below w.heap.size w w':=by
 have pa:=CF (a:=A) (by omega) (by omega);have pb:=CF (a:=B) (by omega) (by omega);have pc:=CF (a:=C) (by omega) (by omega);have HT:=qh (Kq hC hF (by omega) (by omega) (by omega) (by omega) h);obtain ⟨x,y,z,bc,hB,hq,hD⟩:=Gb A B C hC (by omega) (by omega) (by omega);have HL:=qh hB;clear hB;have HB:=qh hD;clear hD
 skip
 have f1:decide (C<1)=false:=by simpa using by omega
 have f2:decide (32768<C)=false:=by simpa using by omega
 have m1:min A B=A:=by omega
 have m2:max A B=B:=by omega
 have m3:IntKind.i64.wrap (-C)=-C:=IntWalk.i64_in _ (by omega);have f3:decide (A < -C)=false:=by simpa using h0
 have f4:decide (C<B)=false:=by simpa using h1
 have hK:IntKind.i64.wrap (A*A)=A*A:=IntWalk.i64_in _ (by omega);have hL:IntKind.i64.wrap (B*B)=B*B:=IntWalk.i64_in _ (by omega);have hM:IntKind.i64.wrap (C*C)=C*C:=IntWalk.i64_in _ (by omega);have hN:IntKind.i64.wrap (A*A+B*B)=A*A+B*B:=IntWalk.i64_in _ (by omega);have f5:(A*A+B*B != C*C)=false:=by simpa using h
 have hG:(if B<A then B else A)=A:=if_neg (by omega);have hH:(if A<B then B else A)=B:=if_pos ho;have hI:IntKind.i64.wrap (-C)=-C:=IntWalk.i64_in _ (by omega);clear h h0 h1 pa pb pc;go_enter Tryd.func17,Tryd.ntmps17;go_wp2_with fail;have hS:T5 A B C w.heap.size w (w.alloc (.cells #[int i64 A,int i64 B,int i64 C] 23)):=⟨Aa (heap_alloc_new w _) 0 rfl,Aa (heap_alloc_new w _) 1 rfl,Aa (heap_alloc_new w _) 2 rfl,(Below.refl _ _).alloc (qn _) _,by simp⟩;generalize w.alloc (.cells #[int i64 A,int i64 B,int i64 C] 23)=w0 at *;obtain ⟨c0,c1,c2,c3,c4⟩:=hS;have hE:=c3.drew;go_region_held3 (λw2=>w2.cell? ⟨w.heap.size,0,none⟩=some (int i64 A)∧w2.cell? ⟨w.heap.size,1,none⟩=some (int i64 B)∧w2.cell? ⟨w.heap.size,2,none⟩=some (int i64 C)∧Below w.heap.size w w2∧w.heap.size<w2.heap.size) (first|assumption|exact ⟨c0,c1,c2,hE,c4⟩|(refine ⟨?_,?_,?_,?_,?_⟩<;>first|assumption|go_keep))
  (first|(go_at_call 34;refine (F9 A B C x y z w.heap.size w _ HL.out (by assumption)).mono ?_;rintro e w3 ⟨rfl,hd⟩))
 all_goals
  rename_i hA;have hJ:=qh hA.2.2.2.1;clear hA c0 c1 c2 c3 c4 hE;cases bc
 all_goals
  go_wp2_with fail;go_ret;exact ⟨AT (by rw [HT.out];simpa [Dd] using HB.out),hJ.out⟩
theorem LC(A B C:Int)(hC:1≤C)(hF:C≤32768)(ho:A=B)(h0:¬A < -C)(h1:¬C<A)(h:A*A+B*B=C*C)(w:World):Calls Tryd.prog 17 #[.agg #[int i64 A,int i64 B,int i64 C]] w λe w'=>e=.returned (int i64 (Dd (EO A B C) 140))∧Below w.heap.size w w':=by
 have pa:=CF (a:=A) (by omega) (by omega);have pb:=CF (a:=B) (by omega) (by omega);have pc:=CF (a:=C) (by omega) (by omega);have HT:=qh (Kq hC hF (by omega) (by omega) (by omega) (by omega) h);obtain ⟨x,y,z,bc,hB,hq,hD⟩:=Gb A B C hC (by omega) (by omega) (by omega);have HL:=qh hB;clear hB;have HB:=qh hD;clear hD;subst ho;have f1:decide (C<1)=false:=by simpa using by omega
 have f2:decide (32768<C)=false:=by simpa using by omega
 have m1:min A A=A:=by omega
 have m2:max A A=A:=by omega
 have m3:IntKind.i64.wrap (-C)=-C:=IntWalk.i64_in _ (by omega);have f3:decide (A < -C)=false:=by simpa using h0
 have f4:decide (C<A)=false:=by simpa using h1
 have hI:IntKind.i64.wrap (A*A)=A*A:=IntWalk.i64_in _ (by omega);have hJ:IntKind.i64.wrap (A*A)=A*A:=IntWalk.i64_in _ (by omega);have hK:IntKind.i64.wrap (C*C)=C*C:=IntWalk.i64_in _ (by omega);have hL:IntKind.i64.wrap (A*A+A*A)=A*A+A*A:=IntWalk.i64_in _ (by omega);have f5:(A*A+A*A != C*C)=false:=by simpa using h
 have hG:IntKind.i64.wrap (-C)=-C:=IntWalk.i64_in _ (by omega);clear h h0 h1 pa pb pc;go_enter Tryd.func17,Tryd.ntmps17;go_wp2_with fail;have hS:T5 A A C w.heap.size w (w.alloc (.cells #[int i64 A,int i64 A,int i64 C] 23)):=⟨Aa (heap_alloc_new w _) 0 rfl,Aa (heap_alloc_new w _) 1 rfl,Aa (heap_alloc_new w _) 2 rfl,(Below.refl _ _).alloc (qn _) _,by simp⟩;generalize w.alloc (.cells #[int i64 A,int i64 A,int i64 C] 23)=w0 at *;obtain ⟨c0,c1,c2,c3,c4⟩:=hS;have hE:=c3.drew;go_region_held3 (λw2=>w2.cell? ⟨w.heap.size,0,none⟩=some (int i64 A)∧w2.cell? ⟨w.heap.size,1,none⟩=some (int i64 A)∧w2.cell? ⟨w.heap.size,2,none⟩=some (int i64 C)∧Below w.heap.size w w2∧w.heap.size<w2.heap.size) (first|assumption|exact ⟨c0,c1,c2,hE,c4⟩|(refine ⟨?_,?_,?_,?_,?_⟩<;>first|assumption|go_keep))
  (first|(go_at_call 34;refine (F9 A A C x y z w.heap.size w _ HL.out (by assumption)).mono ?_;rintro e w3 ⟨rfl,hd⟩))
 all_goals
  rename_i hA;have hH:=qh hA.2.2.2.1;clear hA c0 c1 c2 c3 c4 hE;cases bc
 all_goals
  go_wp2_with fail;go_ret;exact ⟨AT (by rw [HT.out];simpa [Dd] using HB.out),hH.out⟩
theorem LD(A B C:Int)(hC:1≤C)(hF:C≤32768)(ho:B<A)(h0:¬B < -C)(h1:¬C<A)(h:A*A+B*B=C*C)(w:World):Calls Tryd.prog 17 #[.agg #[int i64 A,int i64 B,int i64 C]] w λe w'=>e=.returned (int i64 (Dd (EO A B C) 140))∧Below w.heap.size w w':=by
 have pa:=CF (a:=A) (by omega) (by omega);have pb:=CF (a:=B) (by omega) (by omega);have pc:=CF (a:=C) (by omega) (by omega);have HT:=qh (Kq hC hF (by omega) (by omega) (by omega) (by omega) h);obtain ⟨x,y,z,bc,hB,hq,hD⟩:=Gb A B C hC (by omega) (by omega) (by omega);have HL:=qh hB;clear hB;have HB:=qh hD;clear hD
 skip
 have f1:decide (C<1)=false:=by simpa using by omega
 have f2:decide (32768<C)=false:=by simpa using by omega
 have m1:min A B=B:=by omega
 have m2:max A B=A:=by omega
 have m3:IntKind.i64.wrap (-C)=-C:=IntWalk.i64_in _ (by omega);have f3:decide (B < -C)=false:=by simpa using h0
 have f4:decide (C<A)=false:=by simpa using h1
 have hK:IntKind.i64.wrap (A*A)=A*A:=IntWalk.i64_in _ (by omega);have hL:IntKind.i64.wrap (B*B)=B*B:=IntWalk.i64_in _ (by omega);have hM:IntKind.i64.wrap (C*C)=C*C:=IntWalk.i64_in _ (by omega);have hN:IntKind.i64.wrap (A*A+B*B)=A*A+B*B:=IntWalk.i64_in _ (by omega);have f5:(A*A+B*B != C*C)=false:=by simpa using h
 have hG:(if B<A then B else A)=B:=if_pos ho;have hH:(if A<B then B else A)=A:=if_neg (by omega);have hI:IntKind.i64.wrap (-C)=-C:=IntWalk.i64_in _ (by omega);clear h h0 h1 pa pb pc;go_enter Tryd.func17,Tryd.ntmps17;go_wp2_with fail;have hS:T5 A B C w.heap.size w (w.alloc (.cells #[int i64 A,int i64 B,int i64 C] 23)):=⟨Aa (heap_alloc_new w _) 0 rfl,Aa (heap_alloc_new w _) 1 rfl,Aa (heap_alloc_new w _) 2 rfl,(Below.refl _ _).alloc (qn _) _,by simp⟩;generalize w.alloc (.cells #[int i64 A,int i64 B,int i64 C] 23)=w0 at *;obtain ⟨c0,c1,c2,c3,c4⟩:=hS;have hE:=c3.drew;go_region_held3 (λw2=>w2.cell? ⟨w.heap.size,0,none⟩=some (int i64 A)∧w2.cell? ⟨w.heap.size,1,none⟩=some (int i64 B)∧w2.cell? ⟨w.heap.size,2,none⟩=some (int i64 C)∧Below w.heap.size w w2∧w.heap.size<w2.heap.size) (first|assumption|exact ⟨c0,c1,c2,hE,c4⟩|(refine ⟨?_,?_,?_,?_,?_⟩<;>first|assumption|go_keep))
  (first|(go_at_call 34;refine (F9 A B C x y z w.heap.size w _ HL.out (by assumption)).mono ?_;rintro e w3 ⟨rfl,hd⟩))
 all_goals
  rename_i hA;have hJ:=qh hA.2.2.2.1;clear hA c0 c1 c2 c3 c4 hE;cases bc
 all_goals
  go_wp2_with fail;go_ret;exact ⟨AT (by rw [HT.out];simpa [Dd] using HB.out),hJ.out⟩
theorem QD(A B C:Int)(w:World):Calls Tryd.prog 17 #[.agg #[int i64 A,int i64 B,int i64 C]] w λe w'=>e=.returned (int i64 (Dd (EO A B C) 140))∧Below w.heap.size w w':=by
 have bad:EO A B C=false→(Calls Tryd.prog 17 #[.agg #[int i64 A,int i64 B,int i64 C]] w λe w'=>e=.returned (int i64 140)∧Below w.heap.size w w')→Calls Tryd.prog 17 #[.agg #[int i64 A,int i64 B,int i64 C]] w λe w'=>e=.returned (int i64 (Dd (EO A B C) 140))∧Below w.heap.size w w' :=
  λh hc=>hc.mono λe w' ⟨he,hb⟩=>⟨by rw [he,h];rfl,hb⟩
 by_cases hc:C<1∨32768<C
 ·exact bad (Vp hc) (Su A B C hc w)
 have hA:1≤C:=by omega
 have hB:C≤32768:=by omega
 clear hc;rcases Int.lt_trichotomy A B with ho|ho|ho
 ·by_cases h0:A < -C
  ·exact bad (JE (by omega)) (Ly A B C hA hB ho h0 w)
  by_cases h1:C<B
  ·exact bad (JE (by omega)) (Lu A B C hA hB ho h0 h1 w)
  by_cases h:A*A+B*B=C*C
  ·exact LE A B C hA hB ho h0 h1 h w
  ·exact bad (ML h) (LB A B C hA hB ho h0 h1 h w)
 ·by_cases h0:A < -C
  ·exact bad (JE (by omega)) (Lw A B C hA hB ho h0 w)
  by_cases h1:C<A
  ·exact bad (JE (by omega)) (Lq A B C hA hB ho h0 h1 w)
  by_cases h:A*A+B*B=C*C
  ·exact LC A B C hA hB ho h0 h1 h w
  ·exact bad (ML h) (Lz A B C hA hB ho h0 h1 h w)
 ·by_cases h0:B < -C
  ·exact bad (JE (by omega)) (Lx A B C hA hB ho h0 w)
  by_cases h1:C<A
  ·exact bad (JE (by omega)) (Lr A B C hA hB ho h0 h1 w)
  by_cases h:A*A+B*B=C*C
  ·exact LD A B C hA hB ho h0 h1 h w
  ·exact bad (ML h) (LA A B C hA hB ho h0 h1 h w)
def AC(s:Sgn):List Value:=[int i64 s.id,int i64 s.role,int i64 s.bar,int i64 s.mark,int i64 s.kind,int i64 s.side,int i64 s.dir,int i64 s.level,int i64 s.size,int i64 s.wth,int i64 s.fn,int i64 s.fd,int i64 s.tn,int i64 s.td]
theorem Mf(s:Sgn)(roles:Int)(h:inB s.kind 1 9=true):Cu s.kind.toNat s.side s.dir s.level s.size s.wth roles=JT s roles:=by
 obtain ⟨h1,h2⟩:=AM.1 h;obtain ⟨k,hk⟩:∃k:Nat,s.kind=(k:Int):=⟨s.kind.toNat,by omega⟩;unfold JT Cu;rw [hk] at h1 h2 ⊢;have:k=1∨k=2∨k=3∨k=4∨k=5∨k=6∨k=7∨k=8∨k=9:=by omega
 rcases this with rfl|rfl|rfl|rfl|rfl|rfl|rfl|rfl|rfl<;>simp [Ct,Dy,Ft,Dz,Cv,C8,De]
theorem On(s:Sgn)(roles bars:Int):D9 s.role s.bar s.mark s.kind s.side s.dir s.level s.size s.wth s.fn s.fd s.tn s.td roles bars=Fc s roles bars:=by
 unfold D9 Fc
 cases h:inB s.kind 1 9 with
 | false=>simp
 | true=>rw [Mf s roles h];rfl
theorem Ny{c:Clk}(h:Cb c=0):1≤c.bars∧c.bars≤4096:=by
 unfold Cb at h
 split at h
 ·split at h
  ·rename_i h1 h2
   unfold Eh BL at h2;simp only [Bool.and_eq_true] at h2;exact AM.1 h2.1.1.1.1.1
  ·exact absurd h (by decide)
 ·exact absurd h (by decide)
theorem SD{k:Wrk}(h:64<k.roles.length∨4096<k.signs.length):2=Dj k:=by
 unfold Dj Fj;rcases h with h|h<;>simp [h]<;>(intro h1;omega)
theorem SC{k:Wrk}(h1:k.roles.length≤64)(h2:k.signs.length≤4096)(h:¬Cb k.clock=0):Cb k.clock=Dj k:=by
 unfold Dj Fj;rw [decide_eq_true h1,decide_eq_true h2];simp [h]
theorem SA{k:Wrk}(h1:k.roles.length≤64)(h2:k.signs.length≤4096)(h:Cb k.clock=0)(hb:GG k=false):190=Dj k:=by
 unfold Dj Fj;rw [decide_eq_true h1,decide_eq_true h2];simp [h,hb]
theorem Uh{k:Wrk}(h1:k.roles.length≤64)(h2:k.signs.length≤4096)(h:Cb k.clock=0)(hb:GG k=true):0=Dj k:=by
 unfold Dj Fj;rw [decide_eq_true h1,decide_eq_true h2];simp [h,hb]
theorem DX{k:Wrk}(h:CU k=false):GG k=false:=by unfold GG;rw [h];rfl
theorem Gg{k:Wrk}(h:k.roles.all (FF k.width k.depth)=false):GG k=false:=by unfold GG;rw [h];simp
theorem Gh{k:Wrk}(h:BZ k.roles.length k.clock.bars (-1) k.signs=false):GG k=false:=by unfold GG;rw [h];simp
theorem M0(wd dp ta tb tc bars:Int)(aR aT aP aX aS:Option Addr)(cR cT cP cX cS:Nat)(rs:List Rol)(ts:List Tmp)(ps:List Pau)(xs:List Con)(ss:List Sgn)(w:World)(hE:EnvK w)
  (hR:IsRow CZ 4 w (.slice aR rs.length cR) rs) (hT:IsRow BU 3 w (.slice aT ts.length cT) ts) (hP:IsRow Cg 4 w (.slice aP ps.length cP) ps) (hX:IsRow Cf 4 w (.slice aX xs.length cX) xs) (hS:IsRow AC 14 w (.slice aS ss.length cS) ss) (hl:64<rs.length∨4096<ss.length):Calls Tryd.prog 7 #[.agg #[int i64 wd,int i64 dp,int i64 ta,int i64 tb,int i64 tc,.slice aR rs.length cR,int i64 bars,.slice aT ts.length cT,.slice aP ps.length cP,.slice aX xs.length cX,.slice aS ss.length cS]] w λe w'=>e=.returned (int i64 (Dj ⟨wd,dp,ta,tb,tc,rs,⟨bars,ts,ps,xs⟩,ss⟩))∧Below w.heap.size w w':=by
 have WL:=qh (SD (k:=⟨wd,dp,ta,tb,tc,rs,⟨bars,ts,ps,xs⟩,ss⟩) hl);clear hE hR hT hP hX hS;generalize Dj ⟨wd,dp,ta,tb,tc,rs,⟨bars,ts,ps,xs⟩,ss⟩=ans at *;generalize rs.length=nR at *;generalize ts.length=nT at *;generalize ps.length=nP at *;generalize xs.length=nX at *;generalize ss.length=nS at *;by_cases h1:64<nR
 ·have f1:(64:Int)<(nR:Int):=by omega
  clear hl h1;go_enter Tryd.func7,Tryd.ntmps7;go_wp2_with fail;go_ret;exact ⟨AT WL.out,(Below.refl _ w).alloc (qn _) _⟩
 ·have f1:¬(64:Int)<(nR:Int):=by omega
  have f2:(4096:Int)<(nS:Int):=by omega
  clear hl h1;go_enter Tryd.func7,Tryd.ntmps7;go_wp2_with fail;go_ret;exact ⟨AT WL.out,(Below.refl _ w).alloc (qn _) _⟩
theorem atR{w:World}{b o i:Nat}{ts:List Rol}{t:Rol}(h:AtRow CZ 4 w b o ts)(ht:ts[i]?=some t) :
  w.cell? ⟨b,o+i*4,none⟩=some (.string ⟨t.name.toArray⟩)∧w.cell? ⟨b,o+i*4+1,none⟩=some (int i64 t.x)∧w.cell? ⟨b,o+i*4+2,none⟩=some (int i64 t.y)∧w.cell? ⟨b,o+i*4+3,none⟩=some (int i64 t.face) :=
 ⟨h i t ht 0 _ rfl,h i t ht 1 _ rfl,h i t ht 2 _ rfl,h i t ht 3 _ rfl⟩
theorem atS{w:World}{b o i:Nat}{ts:List Sgn}{t:Sgn}(h:AtRow AC 14 w b o ts)(ht:ts[i]?=some t) :
  w.cell? ⟨b,o+i*14,none⟩=some (int i64 t.id)∧w.cell? ⟨b,o+i*14+1,none⟩=some (int i64 t.role)∧w.cell? ⟨b,o+i*14+2,none⟩=some (int i64 t.bar)∧w.cell? ⟨b,o+i*14+3,none⟩=some (int i64 t.mark)∧w.cell? ⟨b,o+i*14+4,none⟩=some (int i64 t.kind)∧w.cell? ⟨b,o+i*14+5,none⟩=some (int i64 t.side)∧w.cell? ⟨b,o+i*14+6,none⟩=some (int i64 t.dir)∧w.cell? ⟨b,o+i*14+7,none⟩=some (int i64 t.level)∧w.cell? ⟨b,o+i*14+8,none⟩=some (int i64 t.size)∧w.cell? ⟨b,o+i*14+9,none⟩=some (int i64 t.wth)∧w.cell? ⟨b,o+i*14+10,none⟩=some (int i64 t.fn)∧w.cell? ⟨b,o+i*14+11,none⟩=some (int i64 t.fd)∧w.cell? ⟨b,o+i*14+12,none⟩=some (int i64 t.tn)∧w.cell? ⟨b,o+i*14+13,none⟩=some (int i64 t.td) :=
 ⟨h i t ht 0 _ rfl,h i t ht 1 _ rfl,h i t ht 2 _ rfl,h i t ht 3 _ rfl,h i t ht 4 _ rfl,h i t ht 5 _ rfl,h i t ht 6 _ rfl,h i t ht 7 _ rfl,h i t ht 8 _ rfl,h i t ht 9 _ rfl,h i t ht 10 _ rfl,h i t ht 11 _ rfl,h i t ht 12 _ rfl,h i t ht 13 _ rfl⟩
theorem KH(wd dp ta tb tc bars:Int)(aR aT aP aX aS:Option Addr)(cR cT cP cX cS:Nat)(rs:List Rol)(ts:List Tmp)(ps:List Pau)(xs:List Con)(ss:List Sgn)(w:World)(hE:EnvK w)
  (hR:IsRow CZ 4 w (.slice aR rs.length cR) rs) (hT:IsRow BU 3 w (.slice aT ts.length cT) ts) (hP:IsRow Cg 4 w (.slice aP ps.length cP) ps) (hX:IsRow Cf 4 w (.slice aX xs.length cX) xs) (hS:IsRow AC 14 w (.slice aS ss.length cS) ss) (he:rs.length≤64) (hf:ss.length≤4096):Calls Tryd.prog 7 #[.agg #[int i64 wd,int i64 dp,int i64 ta,int i64 tb,int i64 tc,.slice aR rs.length cR,int i64 bars,.slice aT ts.length cT,.slice aP ps.length cP,.slice aX xs.length cX,.slice aS ss.length cS]] w λe w'=>e=.returned (int i64 (Dj ⟨wd,dp,ta,tb,tc,rs,⟨bars,ts,ps,xs⟩,ss⟩))∧Below w.heap.size w w':=by
 have hZ:=λ(w:World) h1 h2 h3=>IE bars aT aP aX cT cP cX ts ps xs w h1 h2 h3
 generalize hG:(⟨wd,dp,ta,tb,tc,rs,⟨bars,ts,ps,xs⟩,ss⟩:Wrk)=wk;have k1:wk.width=wd:=by rw [← hG]
 have k2:wk.depth=dp:=by rw [← hG]
 have k3:wk.ta=ta:=by rw [← hG]
 have k4:wk.tb=tb:=by rw [← hG]
 have k5:wk.tc=tc:=by rw [← hG]
 have k6:wk.roles=rs:=by rw [← hG]
 have k7:wk.clock=⟨bars,ts,ps,xs⟩:=by rw [← hG]
 have k8:wk.signs=ss:=by rw [← hG]
 have k9:wk.clock.bars=bars:=by rw [← hG]
 have hK:=λh hb=>SA (k:=wk) (by rw [k6];exact he) (by rw [k8];exact hf) h hb
 have hD:=λh hb=>Uh (k:=wk) (by rw [k6];exact he) (by rw [k8];exact hf) h hb
 have hL:=λh=>SC (k:=wk) (by rw [k6];exact he) (by rw [k8];exact hf) h
 rw [← k7] at hZ;obtain ⟨clk,k10⟩:∃clk,wk.clock=clk:=⟨_,rfl⟩;rw [k10] at hZ hK hD hL k9;have K10:=qh k10;clear k10;have K1:=qh k1;have K2:=qh k2;have K3:=qh k3;have K4:=qh k4;have K5:=qh k5;have K6:=qh k6;have K8:=qh k8;have K9:=qh k9;have hA:=qh hK;have hO:=qh hD;have hQ:=qh hL;clear hG k1 k2 k3 k4 k5 k6 k7 k8 k9 hK hD hL;have HE:=qh hE;have HR:=qh hR;have HT:=qh hT;have HP:=qh hP;have HX:=qh hX;have HS:=qh hS;have hn:=qh hZ;clear hE hR hT hP hX hS hZ;generalize ho:rs.length=nR at *;generalize hp:ss.length=nS at *;generalize ts.length=nT at *;generalize ps.length=nP at *;generalize xs.length=nX at *;have NR:=qh ho;have NS:=qh hp;clear ho hp;have f1:¬(64:Int)<(nR:Int):=by omega
 have f2:¬(4096:Int)<(nS:Int):=by omega
 have b0:Below w.heap.size w (w.alloc (.cells #[int i64 wd,int i64 dp,int i64 ta,int i64 tb,int i64 tc,.slice aR nR cR,int i64 bars,.slice aT nT cT,.slice aP nP cP,.slice aX nX cX,.slice aS nS cS] 32)):=(Below.refl _ w).alloc (qn _) _;have g0:=heap_alloc_new w (.cells #[int i64 wd,int i64 dp,int i64 ta,int i64 tb,int i64 tc,.slice aR nR cR,int i64 bars,.slice aT nT cT,.slice aP nP cP,.slice aX nX cX,.slice aS nS cS] 32);have hg:w.heap.size<(w.alloc (.cells #[int i64 wd,int i64 dp,int i64 ta,int i64 tb,int i64 tc,.slice aR nR cR,int i64 bars,.slice aT nT cT,.slice aP nP cP,.slice aX nX cX,.slice aS nS cS] 32)).heap.size:=by simp
 go_enter Tryd.func7,Tryd.ntmps7;go_wp2_with fail;clear f1 f2;generalize w.alloc (.cells #[int i64 wd,int i64 dp,int i64 ta,int i64 tb,int i64 tc,.slice aR nR cR,int i64 bars,.slice aT nT cT,.slice aP nP cP,.slice aX nX cX,.slice aS nS cS] 32)=w0 at *;refine (hn.out w0 (HT.out.below b0 (qn _)) (HP.out.below b0 (qn _)) (HX.out.below b0 (qn _))).mono ?_;rintro e w1 ⟨rfl,ha⟩;have hU:=qh (b0.trans (ha.mono (by omega)));have G1:=qh ((ha.block _ hg).trans g0);have hh:w.heap.size<w1.heap.size:=Nat.lt_of_lt_of_le hg ha.size;clear b0 g0 hg ha HT HP HX hn;by_cases hc:Cb clk=0
 rotate_left
 ·have f1:(Cb clk != 0)=true:=by simpa using hc
  have HC:=qh hc;clear hc;go_wp2_with fail;go_ret;exact ⟨AT (hQ.out HC.out),hU.out⟩
 have HC:=qh hc;have hV:=Ny hc;rw [K9.out] at hV;rw [hc];clear hc hQ;have c0:w1.cell? ⟨w.heap.size,0,none⟩=some (int i64 wd):=Aa G1.out 0 rfl;have c1:w1.cell? ⟨w.heap.size,1,none⟩=some (int i64 dp):=Aa G1.out 1 rfl;have c2:w1.cell? ⟨w.heap.size,2,none⟩=some (int i64 ta):=Aa G1.out 2 rfl;have c3:w1.cell? ⟨w.heap.size,3,none⟩=some (int i64 tb):=Aa G1.out 3 rfl;have c4:w1.cell? ⟨w.heap.size,4,none⟩=some (int i64 tc):=Aa G1.out 4 rfl;have c5:w1.cell? ⟨w.heap.size,5,none⟩=some (.slice aR nR cR):=Aa G1.out 5 rfl;go_wp2_with fail;refine (AX wd 1 1000 _).mono ?_;rintro e w' ⟨rfl,rfl⟩
 cases q1:inB wd 1 1000 with
 | false =>
  go_wp2_with fail;go_ret;exact ⟨AT (hA.out HC.out (DX (by unfold CU;simp [K1.out,K2.out,K3.out,K4.out,K5.out,K6.out,q1]))),hU.out⟩
 | true =>
  have Q1:=qh q1;clear q1;go_wp2_with fail;refine (AX dp 1 1000 _).mono ?_;rintro e w' ⟨rfl,rfl⟩
  cases q2:inB dp 1 1000 with
  | false =>
   go_wp2_with fail;go_ret;exact ⟨AT (hA.out HC.out (DX (by unfold CU;simp [K1.out,K2.out,K3.out,K4.out,K5.out,K6.out,q2]))),hU.out⟩
  | true =>
   have Q2:=qh q2;clear q2;go_wp2_with fail;refine (QD ta tb tc _).mono ?_;rintro e w2 ⟨rfl,hd⟩;have hN:=qh (hU.out.trans (hd.mono (by omega)));have G2:=qh ((hd.block _ hh).trans G1.out);have hq:w.heap.size<w2.heap.size:=Nat.lt_of_lt_of_le hh hd.size;clear c0 c1 c2 c3 c4 c5 hd hU G1 hh;have c2:w2.cell? ⟨w.heap.size,2,none⟩=some (int i64 ta):=Aa G2.out 2 rfl;have c3:w2.cell? ⟨w.heap.size,3,none⟩=some (int i64 tb):=Aa G2.out 3 rfl;have c5:w2.cell? ⟨w.heap.size,5,none⟩=some (.slice aR nR cR):=Aa G2.out 5 rfl
   cases q3:EO ta tb tc with
   | false =>
    have f3:(Dd false 140 != 0)=true:=rfl;go_wp2_with fail;go_ret;exact ⟨AT (hA.out HC.out (DX (by unfold CU;simp [K1.out,K2.out,K3.out,K4.out,K5.out,K6.out,q3]))),hN.out⟩
   | true =>
    have f3:(Dd true 140 != 0)=false:=rfl;have Q3:=qh q3;clear q3
    cases q4:decide (ta<0) with
    | true =>
     have Q4:=qh (of_decide_eq_true q4);go_wp2_with fail;go_ret;exact ⟨AT (hA.out HC.out (DX (by unfold CU;simp [K1.out,K2.out,K3.out,K4.out,K5.out,K6.out,show ¬0≤ta from by have:=Q4.out;omega]))),hN.out⟩
    | false =>
     have Q4:=qh (of_decide_eq_false q4)
     cases q5:decide (tb<0) with
     | true =>
      have Q5:=qh (of_decide_eq_true q5);go_wp2_with fail;go_ret;exact ⟨AT (hA.out HC.out (DX (by unfold CU;simp [K1.out,K2.out,K3.out,K4.out,K5.out,K6.out,show ¬0≤tb from by have:=Q5.out;omega]))),hN.out⟩
     | false =>
      have Q5:=qh (of_decide_eq_false q5)
      cases q6:((nR:Int)==0) with
      | true =>
       have Q6:=qh q6;go_wp2_with fail;go_ret;exact ⟨AT (hA.out HC.out (DX (by unfold CU;have h0:rs=[]:=List.length_eq_zero_iff.1 (by rw [NR.out];have:=Q6.out;simp at this;omega);simp [K1.out,K2.out,K3.out,K4.out,K5.out,K6.out,h0]))),hN.out⟩
      | false =>
       have Q6:=qh q6
       have hi:Hid (CU wk=true):=qh (by
        have h0:rs≠[]:=by
         intro h;have h1:=Q6.out;rw [← NR.out,h] at h1;simp at h1
        have h4:0≤ta:=by have:=Q4.out;omega
        have h5:0≤tb:=by have:=Q5.out;omega
        unfold CU;simp [K1.out,K2.out,K3.out,K4.out,K5.out,K6.out,Q1.out,Q2.out,Q3.out,h4,h5,h0])
       go_wp2_with fail;clear f3 q4 q5 q6 Q1 Q2 Q3 Q4 Q5 Q6 c2 c3 c5;go_loopw [62] (λiv wr=>∃k:Nat,k≤nR∧iv=int i64 k∧Hid (rs.all (FF wd dp)=(rs.drop k).all (FF wd dp))∧w.heap.size<wr.heap.size∧Hid (wr.heap[w.heap.size]?=some (.cells #[int i64 wd,int i64 dp,int i64 ta,int i64 tb,int i64 tc,.slice aR nR cR,int i64 bars,.slice aT nT cT,.slice aP nP cP,.slice aX nX cX,.slice aS nS cS] 32 (0,0)))∧Hid (Below w.heap.size w wr)) (λiv _=>nR-(intOf iv).toNat)
       case atStart=>exact ⟨0,Nat.zero_le _,rfl,qh rfl,hq,G2,hN⟩
       case round =>
        clear hN G2 hq;obtain ⟨k,hk,rfl,hB,hW,hJ,hC⟩:=hrel;by_cases hj:k<nR
        ·obtain ⟨t,ht⟩:∃t,rs[k]?=some t:=⟨_,qg (by rw [NR.out];exact hj)⟩
         obtain ⟨bp,op,hl,hF,hM⟩:=HR.out.block ht;subst hl;obtain ⟨p0,p1,p2,p3⟩:=atR (hF.below hC.out hM) ht;have hu:bp<wr.heap.size:=by have:=hC.out.size;omega
         clear hF;have hH:=qh ht;clear ht;have hm:(k:Int)<(nR:Int):=by omega
         have x0:=(Below.heap_alloc wr (.cells #[.string ⟨t.name.toArray⟩,int i64 t.x,int i64 t.y,int i64 t.face] 67) w.heap.size hW).trans hJ.out;have x2:=heap_alloc_new wr (.cells #[.string ⟨t.name.toArray⟩,int i64 t.x,int i64 t.y,int i64 t.face] 67);have x3:Below w.heap.size w (wr.alloc (.cells #[.string ⟨t.name.toArray⟩,int i64 t.x,int i64 t.y,int i64 t.face] 67)):=hC.out.alloc (by omega) _;have x4:w.heap.size<(wr.alloc (.cells #[.string ⟨t.name.toArray⟩,int i64 t.x,int i64 t.y,int i64 t.face] 67)).heap.size:=by simp;omega
         have l1:(wr.alloc (.cells #[.string ⟨t.name.toArray⟩,int i64 t.x,int i64 t.y,int i64 t.face] 67)).cell? ⟨wr.heap.size,1,none⟩=some (int i64 t.x):=Aa x2 1 rfl;have c0:(wr.alloc (.cells #[.string ⟨t.name.toArray⟩,int i64 t.x,int i64 t.y,int i64 t.face] 67)).cell? ⟨w.heap.size,0,none⟩=some (int i64 wd):=Aa x0 0 rfl;have X0:=qh x0;have X2:=qh x2;have hI:=qh x3;clear x0 x2 x3;go_wp2_with fail;generalize wr.alloc (.cells #[.string ⟨t.name.toArray⟩,int i64 t.x,int i64 t.y,int i64 t.face] 67)=w5 at *;generalize wr.heap.size=gw at *;clear p0 p1 p2 p3;have c1:w5.cell? ⟨w.heap.size,1,none⟩=some (int i64 dp):=Aa X0.out 1 rfl;have l2:w5.cell? ⟨gw,2,none⟩=some (int i64 t.y):=Aa X2.out 2 rfl;have l3:w5.cell? ⟨gw,3,none⟩=some (int i64 t.face):=Aa X2.out 3 rfl;clear X2 hJ hC;refine (AX t.x 0 wd _).mono ?_;rintro e w' ⟨rfl,rfl⟩
         cases q0:inB t.x 0 wd with
         | false =>
          go_wp2_with fail;go_ret;exact ⟨AT (hA.out HC.out (Gg (by rw [K6.out,K1.out,K2.out,hB.out,Cs hH.out];simp [FF,q0]))),hI.out⟩
         | true =>
          have Q0:=qh q0;clear q0;go_wp2_with fail;refine (AX t.y 0 dp _).mono ?_;rintro e w' ⟨rfl,rfl⟩
          cases q1:inB t.y 0 dp with
          | false =>
           go_wp2_with fail;go_ret;exact ⟨AT (hA.out HC.out (Gg (by rw [K6.out,K1.out,K2.out,hB.out,Cs hH.out];simp [FF,q1]))),hI.out⟩
          | true =>
           have Q1:=qh q1;clear q1;go_wp2_with fail;refine (AX t.face 0 7 _).mono ?_;rintro e w' ⟨rfl,rfl⟩
           cases q2:inB t.face 0 7 with
           | false =>
            go_wp2_with fail;go_ret;exact ⟨AT (hA.out HC.out (Gg (by rw [K6.out,K1.out,K2.out,hB.out,Cs hH.out];simp [FF,q2]))),hI.out⟩
           | true =>
            have Q2:=qh q2;clear q2;go_wp2_with fail;go_roundw
            case rel=>exact ⟨k+1,by omega,by go_num,qh (by rw [hB.out,Cs hH.out];simp [FF,Q0.out,Q1.out,Q2.out]),x4,X0,hI⟩
            case measure=>simp [intOf];omega
        ·obtain rfl:nR=k:=by omega
         have hr:¬(nR:Int)<(nR:Int):=by omega
         have RM:Hid (rs.all (FF wd dp)=true):=qh (by rw [hB.out,List.drop_of_length_le (by rw [NR.out];exact qn _)];rfl);clear hB;have c10:wr.cell? ⟨w.heap.size,10,none⟩=some (.slice aS nS cS):=Aa hJ.out 10 rfl;go_wp2_with fail;clear c10 hr;go_loopw [6,90] (λlv iv wr=>∃(k:Nat) (last:Int),k≤nS∧iv=int i64 k∧lv=int i64 last∧Hid (BZ nR bars (-1) ss=BZ nR bars last (ss.drop k))∧w.heap.size<wr.heap.size∧Hid (wr.heap[w.heap.size]?=some (.cells #[int i64 wd,int i64 dp,int i64 ta,int i64 tb,int i64 tc,.slice aR nR cR,int i64 bars,.slice aT nT cT,.slice aP nP cP,.slice aX nX cX,.slice aS nS cS] 32 (0,0)))∧Hid (Below w.heap.size w wr)) (λ_ iv _=>nS-(intOf iv).toNat)
         case atStart=>exact ⟨0,-1,Nat.zero_le _,rfl,rfl,qh rfl,hW,hJ,hC⟩
         case round =>
          clear hW hJ hC;obtain ⟨k,last,hk,rfl,rfl,hB,hW,hJ,hC⟩:=hrel;by_cases hj:k<nS
          ·obtain ⟨t,ht⟩:∃t,ss[k]?=some t:=⟨_,qg (by rw [NS.out];exact hj)⟩
           obtain ⟨bp,op,hl,hF,hM⟩:=HS.out.block ht;subst hl;obtain ⟨p0,p1,p2,p3,p4,p5,p6,p7,p8,p9,p10,p11,p12,p13⟩:=atS (hF.below hC.out hM) ht;have hu:bp<wr.heap.size:=by have:=hC.out.size;omega
           clear hF;have hH:=qh ht;clear ht;have hm:(k:Int)<(nS:Int):=by omega
           have x0:=(Below.heap_alloc wr (.cells #[int i64 t.id,int i64 t.role,int i64 t.bar,int i64 t.mark,int i64 t.kind,int i64 t.side,int i64 t.dir,int i64 t.level,int i64 t.size,int i64 t.wth,int i64 t.fn,int i64 t.fd,int i64 t.tn,int i64 t.td] 43) w.heap.size hW).trans hJ.out;have x2:=heap_alloc_new wr (.cells #[int i64 t.id,int i64 t.role,int i64 t.bar,int i64 t.mark,int i64 t.kind,int i64 t.side,int i64 t.dir,int i64 t.level,int i64 t.size,int i64 t.wth,int i64 t.fn,int i64 t.fd,int i64 t.tn,int i64 t.td] 43);have x3:Below w.heap.size w (wr.alloc (.cells #[int i64 t.id,int i64 t.role,int i64 t.bar,int i64 t.mark,int i64 t.kind,int i64 t.side,int i64 t.dir,int i64 t.level,int i64 t.size,int i64 t.wth,int i64 t.fn,int i64 t.fd,int i64 t.tn,int i64 t.td] 43)):=hC.out.alloc (by omega) _;have x4:w.heap.size<(wr.alloc (.cells #[int i64 t.id,int i64 t.role,int i64 t.bar,int i64 t.mark,int i64 t.kind,int i64 t.side,int i64 t.dir,int i64 t.level,int i64 t.size,int i64 t.wth,int i64 t.fn,int i64 t.fd,int i64 t.tn,int i64 t.td] 43)).heap.size:=by simp;omega
           have x5:wr.heap.size<(wr.alloc (.cells #[int i64 t.id,int i64 t.role,int i64 t.bar,int i64 t.mark,int i64 t.kind,int i64 t.side,int i64 t.dir,int i64 t.level,int i64 t.size,int i64 t.wth,int i64 t.fn,int i64 t.fd,int i64 t.tn,int i64 t.td] 43)).heap.size:=by simp
           have X0:=qh x0;have X2:=qh x2;have hI:=qh x3;have HK:=qh hk;have l0:(wr.alloc (.cells #[int i64 t.id,int i64 t.role,int i64 t.bar,int i64 t.mark,int i64 t.kind,int i64 t.side,int i64 t.dir,int i64 t.level,int i64 t.size,int i64 t.wth,int i64 t.fn,int i64 t.fd,int i64 t.tn,int i64 t.td] 43)).cell? ⟨wr.heap.size,0,none⟩=some (int i64 t.id):=Aa x2 0 rfl;clear x0 x2 x3 hk
           cases q0:decide (t.id≤last) with
           | true =>
            have Q0:=qh (of_decide_eq_true q0);have f0:t.id≤last:=Q0.out;clear q0;go_wp2_with fail;go_ret;exact ⟨AT (hA.out HC.out (Gh (by rw [K6.out,K8.out,K10.out,K9.out,NR.out,hB.out,Cs hH.out];have:=Q0.out;simp [BZ,IC,show ¬last<t.id from by omega]))),hI.out⟩
           | false =>
            have Q0:=qh (of_decide_eq_false q0);have f0:¬t.id≤last:=Q0.out;clear q0
            cases q1:decide (1048576<t.id) with
            | true =>
             have Q1:=qh (of_decide_eq_true q1);have f1:1048576<t.id:=Q1.out;clear q1;go_wp2_with fail;go_ret;exact ⟨AT (hA.out HC.out (Gh (by rw [K6.out,K8.out,K10.out,K9.out,NR.out,hB.out,Cs hH.out];have:=Q1.out;simp [BZ,IC,show ¬t.id≤1048576 from by omega]))),hI.out⟩
            | false =>
             have Q1:=qh (of_decide_eq_false q1);have f1:¬1048576<t.id:=Q1.out;clear q1;have c5:(wr.alloc (.cells #[int i64 t.id,int i64 t.role,int i64 t.bar,int i64 t.mark,int i64 t.kind,int i64 t.side,int i64 t.dir,int i64 t.level,int i64 t.size,int i64 t.wth,int i64 t.fn,int i64 t.fd,int i64 t.tn,int i64 t.td] 43)).cell? ⟨w.heap.size,5,none⟩=some (.slice aR nR cR):=Aa X0.out 5 rfl;have c6:(wr.alloc (.cells #[int i64 t.id,int i64 t.role,int i64 t.bar,int i64 t.mark,int i64 t.kind,int i64 t.side,int i64 t.dir,int i64 t.level,int i64 t.size,int i64 t.wth,int i64 t.fn,int i64 t.fd,int i64 t.tn,int i64 t.td] 43)).cell? ⟨w.heap.size,6,none⟩=some (int i64 bars):=Aa X0.out 6 rfl;go_wp2_with fail;generalize wr.alloc (.cells #[int i64 t.id,int i64 t.role,int i64 t.bar,int i64 t.mark,int i64 t.kind,int i64 t.side,int i64 t.dir,int i64 t.level,int i64 t.size,int i64 t.wth,int i64 t.fn,int i64 t.fd,int i64 t.tn,int i64 t.td] 43)=w5 at *;clear p0 p1 p2 p3 p4 p5 p6 p7 p8 p9 p10 p11 p12 p13 f0 f1 hJ hC c5 c6 l0;refine (Oo t.id t.role t.bar t.mark t.kind t.side t.dir t.level t.size t.wth t.fn t.fd t.tn t.td nR bars (by omega) (by omega) (by omega) (by omega) _ (HE.out.below hI.out)).mono ?_;rintro e w6 ⟨rfl,hY⟩;rw [On];have hs:=qh (hI.out.trans (hY.mono (by omega)));have y0:=(hY.block _ x4).trans X0.out;have y2:=(hY.block _ x5).trans X2.out;have y4:w.heap.size<w6.heap.size:=Nat.lt_of_lt_of_le x4 hY.size;have Y0:=qh y0;have Y2:=qh y2;have l0:w6.cell? ⟨wr.heap.size,0,none⟩=some (int i64 t.id):=Aa y2 0 rfl;clear X0 X2 x5 hY y0 y2
             cases q2:Fc t nR bars with
             | false =>
              go_wp2_with fail;go_ret;exact ⟨AT (hA.out HC.out (Gh (by rw [K6.out,K8.out,K10.out,K9.out,NR.out,hB.out,Cs hH.out];simp [BZ,IC,q2]))),hs.out⟩
             | true =>
              have Q2:=qh q2;clear q2;go_wp2_with fail;have hk:=HK.out;go_roundw
              case rel=>exact ⟨k+1,t.id,by omega,by go_num,rfl,qh (by rw [hB.out,Cs hH.out];have h0:=Q0.out;have h1:=Q1.out;simp [BZ,IC,show last<t.id from by omega,show t.id≤1048576 from by omega,Q2.out]),y4,Y0,hs⟩
              case measure=>simp [intOf];omega
          ·obtain rfl:nS=k:=by omega
           have hr:¬(nS:Int)<(nS:Int):=by omega
           have SM:Hid (BZ nR bars (-1) ss=true):=qh (by rw [hB.out,List.drop_of_length_le (by rw [NS.out];exact qn _)];rfl);clear hB;go_wp2_with fail;go_ret;exact ⟨AT (hO.out HC.out (by unfold GG;rw [hi.out,K6.out,K8.out,K10.out,K9.out,K1.out,K2.out,NR.out,RM.out,SM.out];rfl)),hC.out⟩
theorem DZ(wd dp ta tb tc bars:Int)(aR aT aP aX aS:Option Addr)(cR cT cP cX cS:Nat)(rs:List Rol)(ts:List Tmp)(ps:List Pau)(xs:List Con)(ss:List Sgn)(w:World)(hE:EnvK w)
  (hR:IsRow CZ 4 w (.slice aR rs.length cR) rs) (hT:IsRow BU 3 w (.slice aT ts.length cT) ts) (hP:IsRow Cg 4 w (.slice aP ps.length cP) ps) (hX:IsRow Cf 4 w (.slice aX xs.length cX) xs) (hS:IsRow AC 14 w (.slice aS ss.length cS) ss):Calls Tryd.prog 7 #[.agg #[int i64 wd,int i64 dp,int i64 ta,int i64 tb,int i64 tc,.slice aR rs.length cR,int i64 bars,.slice aT ts.length cT,.slice aP ps.length cP,.slice aX xs.length cX,.slice aS ss.length cS]] w λe w'=>e=.returned (int i64 (Dj ⟨wd,dp,ta,tb,tc,rs,⟨bars,ts,ps,xs⟩,ss⟩))∧Below w.heap.size w w':=by
 by_cases h:64<rs.length∨4096<ss.length
 ·exact M0 wd dp ta tb tc bars aR aT aP aX aS cR cT cP cX cS rs ts ps xs ss w hE hR hT hP hX hS h
 ·exact KH wd dp ta tb tc bars aR aT aP aX aS cR cT cP cX cS rs ts ps xs ss w hE hR hT hP hX hS (by omega) (by omega)
end
section
open Go Go.RowKit Go.Deep
theorem tkH{P:Program}{md:Region.Mode}{ops:Array Oper}{Q:Exit→Act→World→Prop}{i:Nat}{oi:Oper}{v:Value}{fuel:Nat}{listed:Array Bool}{a:Act}{w:World}(hi:ops[i]?=some oi)
  (hs:(Region.noSelect ops&&(Region.free md ops listed i&&((Region.ready md ops listed).contains i&&Region.wanted oi (yielded ops a.tmps))))=true)
  (hQ:∀c a w,Q (.panic c) (a.put oi.dst v) w→Q (.panic c) a w) (hy:∀V,(execOp a.eval oi).run P V=.ok (.value v) V)
  (h:wpAnyH P md ops Q (λ_=>True) fuel (listed.setIfInBounds i true) (a.put oi.dst v) w):wpAnyH P md ops Q (λ_=>True) (fuel+1) listed a w:=by
 simp only [Bool.and_eq_true] at hs;exact wpAnyH_take hi hs.1 hs.2.1 hs.2.2.1 hQ (Or.inl ⟨hs.2.2.2,λV _=>hy V⟩) trivial h
def Mq (l : List Oper) (i : Nat) : Oper := l.getD i { dst := none, op := .move (.tmp 0), type := 0, pos := "", after := #[], guard := none }
theorem B9(o:Oper)(l:List Oper):Mq (o::l) 0=o:=rfl
theorem B6(o:Oper)(l:List Oper)(i:Nat):Mq (o::l) (i+1)=Mq l i:=rfl
theorem EK{P:Program}{md:Region.Mode}{l:List Oper}{Q:Exit→Act→World→Prop}(i:Nat){fuel:Nat}{listed:Array Bool}{a:Act}{w:World}(hr:Region.ready md l.toArray listed=[i])(hs:(decide (i<l.toArray.size)&&Region.wanted (Mq l i) (yielded l.toArray a.tmps))=true)
  (h:∀K':Act→World→Prop,Shut (∀a w,wpAnyH P md l.toArray Q (λ_=>True) fuel (listed.setIfInBounds i true) a w→K' a w)→Oper.wp P (Mq l i) a w K' Q):wpAnyH P md l.toArray Q (λ_=>True) (fuel+1) listed a w:=by
 rw [Bool.and_eq_true] at hs;have hi:i<l.toArray.size:=of_decide_eq_true hs.1;refine wpAnyH_ready hr (by simp) (AllReadyH.cons (o:=Mq l i) ?_ (λK hK=>by rw [if_pos hs.2];exact h K (λa w h=>hK.out a w trivial (λ_=>h))) AllReadyH.nil);unfold Mq;simp at hi;simp [qg hi]
section
variable {α:Type}
structure RowS(val:α→Sgn)(g o N:Nat)(X:Nat→α)(w:World):Prop where
 at_:∀i,i<N→w.rangeAt g (o+i*14) (AC (val (X i)))
 free:FreeB w g
theorem RowS.there{val:α→Sgn}{g o N:Nat}{X:Nat→α}{w:World}(h:RowS val g o N X w){i:Nat}(hi:i<N):w.there g (o+i*14) 14:=λj hj =>
 ⟨(h.at_ i hi).isSome j (by simpa [AC] using hj),h.free.free _⟩
theorem FreeB.cells{w:World}{c:Nat}(h:FreeB w c)(b:Nat):∀(vs:List Value) (o:Nat),FreeB (w.setCells b o vs) c
 | [],_=>h
 | v::r,o=>by rw [World.setCells];exact (h.set ⟨b,o,none⟩ v).cells b r (o+1)
theorem ButOne.cells(g:Nat):∀(vs:List Value) (o:Nat) (w:World),ButOne g w (w.setCells g o vs)
 | [],_,_=>ButOne.refl _ _
 | v::r,o,w=>by rw [World.setCells];exact (ButOne.setCell (p:=⟨g,o,none⟩) v).trans (ButOne.cells g r (o+1) _)
theorem RowS.block{val:α→Sgn}{g o N:Nat}{X:Nat→α}{w w':World}(h:RowS val g o N X w)(e:w'.heap[g]?=w.heap[g]?):RowS val g o N X w':=by
 refine ⟨λi hi j v hv=>?_,?_⟩
 ·have:=h.at_ i hi j v hv
  unfold World.cell? at this ⊢;rw [e];exact this
 ·obtain ⟨c,t,q⟩:=h.free;exact ⟨c,t,e.trans q⟩
theorem RowS.lt{val:α→Sgn}{g o N:Nat}{X:Nat→α}{w:World}(h:RowS val g o N X w):g<w.heap.size:=h.free.lt
theorem RowS.below{val:α→Sgn}{g o N:Nat}{X:Nat→α}{w w':World}(h:RowS val g o N X w)(hb:Below w.heap.size w w'):RowS val g o N X w':=h.block (hb.block g h.lt)
theorem I7(s:Sgn):(AC s).length=14:=rfl
theorem RowS.put{val:α→Sgn}{g o N:Nat}{X:Nat→α}{w:World}(h:RowS val g o N X w){i j:Nat}(hi:i<N)(hj:j<N)(hA:i≠j) :
  RowS val g o N (swp X i j) ((w.setCells g (o+i*14) (AC (val (X j)))).setCells g (o+j*14) (AC (val (X i)))):=by
 refine ⟨λk hk=>?_,(h.free.cells g _ _).cells g _ _⟩;by_cases e1:k=j
 ·subst e1
  have e:swp X i k k=X i:=by unfold swp;rw [if_neg (λe=>hA e.symm),if_pos rfl]
  rw [e];exact World.rangeAt_setCells_same _ _ _ _ (World.there_setCells (h.there hj) _ _ _)
 ·by_cases e2:k=i
  ·subst e2
   have e:swp X k j k=X j:=by unfold swp;rw [if_pos rfl]
   rw [e];exact World.rangeAt_setCells_apart (World.rangeAt_setCells_same _ _ _ _ (h.there hi)) _ _ _ (by simp only [I7];omega)
  ·have e:swp X i j k=X k:=by unfold swp;rw [if_neg e2,if_neg e1]
   rw [e];exact World.rangeAt_setCells_apart (World.rangeAt_setCells_apart (h.at_ k hk) _ _ _ (by simp only [I7];omega)) _ _ _ (by simp only [I7];omega)
theorem RowS.put_but(val:α→Sgn)(g o:Nat)(X:Nat→α)(w:World)(i j:Nat):ButOne g w ((w.setCells g (o+i*14) (AC (val (X j)))).setCells g (o+j*14) (AC (val (X i)))):=(ButOne.cells g _ _ _).trans (ButOne.cells g _ _ _)
theorem Ex{w:World}{b o:Nat}(h:w.there b o 14)(s:Sgn):w.there b o (AC s).toArray.size:=h
theorem D0(s:Sgn):(AC s).toArray.all (·.oneCell')=true:=all_oneCell_toArray λv hv=>by
 simp only [AC,List.mem_cons,List.not_mem_nil,or_false] at hv;rcases hv with rfl|rfl|rfl|rfl|rfl|rfl|rfl|rfl|rfl|rfl|rfl|rfl|rfl|rfl<;>rfl
def Uo(val:α→Sgn)(g o N:Nat)(Y:Nat→α)(w:World)(e:Ending)(w':World):Prop:=e=.returned (.tuple #[])∧RowS val g o N Y w'∧ButOne g w w'
theorem Sp(val:α→Sgn)(g o cap N a b n:Nat)(X:Nat→α)(f:Nat)(w:World)(h1:a+n≤b)(h2:b+n≤N)(hN:N≤1000000)(hR:RowS val g o N X w) :
  Calls Tryd.prog 88 #[.slice (some ⟨g,o,none⟩) N cap,int i64 a,int i64 b,int i64 n,.func (.func f) #[] #[]] w (Uo val g o N (swr X a b n) w):=by
 have HR:=qh hR;clear hR;go_enter Tryd.func88,Tryd.ntmps88;go_wp2_with fail;go_loopw [10] (λiv wr=>∃i:Nat,iv=int i64 i∧i≤n∧Hid (RowS val g o N (swr X a b i) wr)∧Hid (ButOne g w wr)) (λiv _=>n+1-(intOf iv).toNat)
 case atStart=>exact ⟨0,rfl,Nat.zero_le _,qh (by rw [Qz];exact HR.out),qh (ButOne.refl _ _)⟩
 case round =>
  obtain ⟨i,rfl,hi,hr,hb⟩:=hrel;by_cases hG:i<n
  ·have hE:(i:Int)<(n:Int):=by omega
   obtain ⟨p,hp⟩:∃p:Nat,a+i=p:=⟨_,rfl⟩;obtain ⟨q,hq⟩:∃q:Nat,b+i=q:=⟨_,rfl⟩;have wa:IntKind.i64.wrap ((a:Int)+(i:Int))=(p:Int):=(IntWalk.i64_in _ (by omega)).trans (by omega);have wb:IntKind.i64.wrap ((b:Int)+(i:Int))=(q:Int):=(IntWalk.i64_in _ (by omega)).trans (by omega);have q1:(p:Int)<(N:Int):=by omega
   have q2:(q:Int)<(N:Int):=by omega
   have hB:=qh (hr.out.block (w':=wr.drew) rfl);have hF:=qh (hb.out.trans (ButOne.of_below ((Below.refl _ wr).drew)));have HA:=qh hB.out.at_;have ht:=λk (hk:k<N)=>hB.out.there hk
   have HT:=qh ht;have HP:=qh (show p<N∧q<N∧p≠q by omega);clear ht;go_wp2_with fail;clear hE;refine wp_region_held (S:=λ_=>True) (by kernel_rfl) ?_;change wpAnyH _ _ _ _ _ _ _ _ wr.drew;generalize wr.drew=W2 at *;refine tkH (i:=0) (oi:=_) (v:=.slice (some ⟨g,o,none⟩) N cap) rfl (by kernel_rfl) (λ_ _ _ h=>h) (λV=>by go_simp) ?_
   try simp only [Act.put,qA,qB,qC,qD,qE,qF]
   refine tkH (i:=1) (oi:=_) (v:=int i64 (a:Nat)) rfl (by kernel_rfl) (λ_ _ _ h=>h) (λV=>by go_simp) ?_
   try simp only [Act.put,qA,qB,qC,qD,qE,qF]
   refine tkH (i:=2) (oi:=_) (v:=int i64 (i:Nat)) rfl (by kernel_rfl) (λ_ _ _ h=>h) (λV=>by go_simp) ?_
   try simp only [Act.put,qA,qB,qC,qD,qE,qF]
   refine tkH (i:=3) (oi:=_) (v:=int i64 (p:Nat)) rfl (by kernel_rfl) (λ_ _ _ h=>h) (λV=>by go_simp) ?_
   try simp only [Act.put,qA,qB,qC,qD,qE,qF]
   refine tkH (i:=4) (oi:=_) (v:=.slice (some ⟨g,o,none⟩) N cap) rfl (by kernel_rfl) (λ_ _ _ h=>h) (λV=>by go_simp) ?_
   try simp only [Act.put,qA,qB,qC,qD,qE,qF]
   refine tkH (i:=5) (oi:=_) (v:=int i64 (b:Nat)) rfl (by kernel_rfl) (λ_ _ _ h=>h) (λV=>by go_simp) ?_
   try simp only [Act.put,qA,qB,qC,qD,qE,qF]
   refine tkH (i:=6) (oi:=_) (v:=int i64 (i:Nat)) rfl (by kernel_rfl) (λ_ _ _ h=>h) (λV=>by go_simp) ?_
   try simp only [Act.put,qA,qB,qC,qD,qE,qF]
   refine tkH (i:=7) (oi:=_) (v:=int i64 (q:Nat)) rfl (by kernel_rfl) (λ_ _ _ h=>h) (λV=>by go_simp) ?_
   try simp only [Act.put,qA,qB,qC,qD,qE,qF]
   refine tkH (i:=8) (oi:=_) (v:=.slice (some ⟨g,o,none⟩) N cap) rfl (by kernel_rfl) (λ_ _ _ h=>h) (λV=>by go_simp) ?_
   try simp only [Act.put,qA,qB,qC,qD,qE,qF]
   refine tkH (i:=9) (oi:=_) (v:=int i64 (b:Nat)) rfl (by kernel_rfl) (λ_ _ _ h=>h) (λV=>by go_simp) ?_
   try simp only [Act.put,qA,qB,qC,qD,qE,qF]
   refine tkH (i:=10) (oi:=_) (v:=int i64 (i:Nat)) rfl (by kernel_rfl) (λ_ _ _ h=>h) (λV=>by go_simp) ?_
   try simp only [Act.put,qA,qB,qC,qD,qE,qF]
   refine tkH (i:=11) (oi:=_) (v:=int i64 (q:Nat)) rfl (by kernel_rfl) (λ_ _ _ h=>h) (λV=>by go_simp) ?_
   try simp only [Act.put,qA,qB,qC,qD,qE,qF]
   refine tkH (i:=12) (oi:=_) (v:=.pointer (some ⟨g,o+q*14,none⟩)) rfl (by kernel_rfl) (λ_ _ _ h=>h) (λV=>by go_simp) ?_
   try simp only [Act.put,qA,qB,qC,qD,qE,qF]
   refine tkH (i:=14) (oi:=_) (v:=.slice (some ⟨g,o,none⟩) N cap) rfl (by kernel_rfl) (λ_ _ _ h=>h) (λV=>by go_simp) ?_
   try simp only [Act.put,qA,qB,qC,qD,qE,qF]
   refine tkH (i:=15) (oi:=_) (v:=int i64 (a:Nat)) rfl (by kernel_rfl) (λ_ _ _ h=>h) (λV=>by go_simp) ?_
   try simp only [Act.put,qA,qB,qC,qD,qE,qF]
   refine tkH (i:=16) (oi:=_) (v:=int i64 (i:Nat)) rfl (by kernel_rfl) (λ_ _ _ h=>h) (λV=>by go_simp) ?_
   try simp only [Act.put,qA,qB,qC,qD,qE,qF]
   refine tkH (i:=17) (oi:=_) (v:=int i64 (p:Nat)) rfl (by kernel_rfl) (λ_ _ _ h=>h) (λV=>by go_simp) ?_
   try simp only [Act.put,qA,qB,qC,qD,qE,qF]
   refine tkH (i:=18) (oi:=_) (v:=.pointer (some ⟨g,o+p*14,none⟩)) rfl (by kernel_rfl) (λ_ _ _ h=>h) (λV=>by go_simp) ?_
   try simp only [Act.put,qA,qB,qC,qD,qE,qF]
   refine wpAnyH_ready (rs:=[13,19]) (by kernel_rfl) (by simp) ?_;refine AllReadyH.cons (o:=_) rfl (λK1 hK=>?_) (AllReadyH.cons (o:=_) rfl (λK1 hK=>?_) AllReadyH.nil);rw [if_pos (by kernel_rfl)];refine wp_load_mid 43 _ rfl g _ rfl _ _ (HA.out q (by omega)) Tryd.underlying43 rfl (by kernel_rfl) ?_;refine hK.out _ _ trivial (λ_=>?_);clear hK K1
   try simp only [Act.put,qA,qB,qC,qD,qE,qF]
   refine EK 19 (by kernel_rfl) (by kernel_rfl) (λK1 hK=>?_);simp only [B6,B9];refine wp_load_mid 43 _ rfl g _ rfl _ _ (HA.out p (by omega)) Tryd.underlying43 rfl (by kernel_rfl) ?_;refine hK.out _ _ ?_;clear hK K1
   try simp only [Act.put,qA,qB,qC,qD,qE,qF]
   rotate_left
   rw [if_pos (by kernel_rfl)];refine wp_load_mid 43 _ rfl g _ rfl _ _ (HA.out p (by omega)) Tryd.underlying43 rfl (by kernel_rfl) ?_;refine hK.out _ _ trivial (λ_=>?_);clear hK K1
   try simp only [Act.put,qA,qB,qC,qD,qE,qF]
   refine EK 13 (by kernel_rfl) (by kernel_rfl) (λK1 hK=>?_);simp only [B6,B9];refine wp_load_mid 43 _ rfl g _ rfl _ _ (HA.out q (by omega)) Tryd.underlying43 rfl (by kernel_rfl) ?_;refine hK.out _ _ ?_;clear hK K1
   try simp only [Act.put,qA,qB,qC,qD,qE,qF]
   all_goals
    refine tkH (i:=20) (oi:=_) (v:=.pointer (some ⟨g,o+p*14,none⟩)) rfl (by kernel_rfl) (λ_ _ _ h=>h) (λV=>by go_simp) ?_
    try simp only [Act.put,qA,qB,qC,qD,qE,qF]
    refine EK 21 (by kernel_rfl) (by kernel_rfl) (λK1 hK=>?_);simp only [B6,B9];refine wp_store_mid 43 _ _ rfl g (o+p*14) (AC (val (swr X a b i q))).toArray rfl rfl (Ex (HT.out p (by omega)) _) (by kernel_rfl) (D0 _) ?_;refine hK.out _ _ ?_;clear hK K1
    try simp only [Act.put,qA,qB,qC,qD,qE,qF]
    have hC:=qh (World.there_setCells (Ex (HT.out q (by omega)) (val (swr X a b i p))) g (o+p*14) (AC (val (swr X a b i q))));obtain ⟨W3,hA⟩:∃W3,W2.setCells g (o+p*14) (AC (val (swr X a b i q)))=W3:=⟨_,rfl⟩;change wpAnyH _ _ _ _ _ _ _ _ (W2.setCells g (o+p*14) (AC (val (swr X a b i q))));rw [hA];rw [hA] at hC;have hD:=qh hA;clear hA;refine tkH (i:=22) (oi:=_) (v:=.pointer (some ⟨g,o+q*14,none⟩)) rfl (by kernel_rfl) (λ_ _ _ h=>h) (λV=>by go_simp) ?_
    try simp only [Act.put,qA,qB,qC,qD,qE,qF]
    refine EK 23 (by kernel_rfl) (by kernel_rfl) (λK1 hK=>?_);simp only [B6,B9];refine wp_store_mid 43 _ _ rfl g (o+q*14) (AC (val (swr X a b i p))).toArray rfl rfl hC.out (by kernel_rfl) (D0 _) ?_;refine hK.out _ _ ?_;clear hK K1
    try simp only [Act.put,qA,qB,qC,qD,qE,qF]
    refine wpAnyH_done (by kernel_rfl) ?_ _;clear wa wb q1 q2;go_wp2_with fail;go_roundw
    case rel=>exact ⟨i+1,by go_num,by omega,qh (by
     have:=hB.out.put HP.out.1 HP.out.2.1 HP.out.2.2;rw [← Qy X (by omega),hp,hq];rw [hD.out] at this
     exact this),qh (hF.out.trans (by rw [← hD.out];exact RowS.put_but val g o _ _ p q))⟩
    case measure=>simp [intOf];omega
  ·obtain rfl:i=n:=by omega
   go_wp2_with fail;go_end0;exact ⟨rfl,hr.out,hb.out⟩
end
end
section
open Go Go.RowKit Go.Deep
section
variable {α:Type}
theorem Sd(val:α→Sgn)(g o cap N a m b:Nat)(X:Nat→α)(f:Nat)(w:World)(h1:a<m)(h2:m<b)(h3:b≤N)(hN:N≤1000000)(hR:RowS val g o N X w) :
  Calls Tryd.prog 69 #[.slice (some ⟨g,o,none⟩) N cap,int i64 a,int i64 m,int i64 b,.func (.func f) #[] #[]] w (Uo val g o N (rot X a m b) w):=by
 have HR:=qh hR;clear hR;have w1:IntKind.i64.wrap ((m:Int)-(a:Int))=((m-a:Nat):Int):=(IntWalk.i64_in _ (by omega)).trans (by omega);have w2:IntKind.i64.wrap ((b:Int)-(m:Int))=((b-m:Nat):Int):=(IntWalk.i64_in _ (by omega)).trans (by omega);have HS:=qh (λ(x y k:Nat) (Y:Nat→α) V (p1:x+k≤y) (p2:y+k≤N) (hV:RowS val g o N Y V)=>Sp val g o cap N x y k Y f V p1 p2 hN hV);go_enter Tryd.func69,Tryd.ntmps69;go_wp2_with fail;clear w1 w2;go_loopw [10,11] (λiv jv wr=>∃(i j:Nat) (Y:Nat→α),iv=int i64 i∧jv=int i64 j∧0<i∧0<j∧i≤m∧m+j≤N∧Hid (RowS val g o N Y wr)∧Hid (ButOne g w wr)∧Hid (rot Y (m-i) m (m+j)=rot X a m b)) (λiv jv _=>(intOf iv).toNat+(intOf jv).toNat)
 case atStart=>exact ⟨m-a,b-m,X,rfl,rfl,by omega,by omega,by omega,by omega,HR,qh (ButOne.refl _ _),qh (by rw [show m-(m-a)=a by omega,show m+(b-m)=b by omega])⟩
 case round =>
  obtain ⟨i,j,Y,rfl,rfl,hi,hj,hE,hF,hr,hb,he⟩:=hrel;have wi:IntKind.i64.wrap ((m:Int)-(i:Int))=((m-i:Nat):Int):=(IntWalk.i64_in _ (by omega)).trans (by omega);by_cases hG:i=j
  ·subst hG
   go_wp2_with (go_at_call 88;refine (HS.out (m-i) m i Y _ (by omega) (by omega) hr.out).mono ?_;rintro e V ⟨rfl,hA,hB⟩;have hC:=qh hA;have hD:=qh hB;clear hA hB);go_end0;exact ⟨rfl,by rw [← he.out,← TY Y hE];exact hC.out,hb.out.trans hD.out⟩
  ·have hH:¬(i:Int)=(j:Int):=by omega
   have hJ:((i:Int)==(j:Int))=false:=by simpa using hH
   by_cases hI:j<i
   ·have hg:(j:Int)<(i:Int):=by omega
    have wj:IntKind.i64.wrap ((i:Int)-(j:Int))=((i-j:Nat):Int):=(IntWalk.i64_in _ (by omega)).trans (by omega)
    go_wp2_with (go_at_call 88;refine (HS.out (m-i) m j Y _ (by omega) (by omega) hr.out).mono ?_;rintro e V ⟨rfl,hA,hB⟩;have hC:=qh hA;have hD:=qh hB;clear hA hB);go_roundw
    case rel=>exact ⟨i-j,j,_,rfl,rfl,by omega,hj,by omega,hF,hC,qh (hb.out.trans hD.out),qh (by rw [← he.out];exact TZ Y hI hE)⟩
    case measure=>simp [intOf];omega
   ·have hg:¬(j:Int)<(i:Int):=by omega
    have wj:IntKind.i64.wrap ((j:Int)-(i:Int))=((j-i:Nat):Int):=(IntWalk.i64_in _ (by omega)).trans (by omega);have wk:IntKind.i64.wrap ((m:Int)+(j:Int))=(m:Int)+(j:Int):=IntWalk.i64_in _ (by omega);have wl:IntKind.i64.wrap ((m:Int)+(j:Int)-(i:Int))=((m+j-i:Nat):Int):=(IntWalk.i64_in _ (by omega)).trans (by omega)
    go_wp2_with (go_at_call 88;refine (HS.out (m-i) (m+j-i) i Y _ (by omega) (by omega) hr.out).mono ?_;rintro e V ⟨rfl,hA,hB⟩;have hC:=qh hA;have hD:=qh hB;clear hA hB);go_roundw
    case rel=>exact ⟨i,j-i,_,rfl,rfl,hi,by omega,hE,by omega,hC,qh (hb.out.trans hD.out),qh (by rw [← he.out];exact U7 Y (by omega) hE)⟩
    case measure=>simp [intOf];omega
end
end
section
open Go Go.RowKit Go.Deep
section
variable {α:Type}
structure CmpOk(val:α→Sgn)(lt:α→α→Bool)(c:Nat):Prop where
 swo:SwO lt
 enter:∀args w,(callFunc c args).run Tryd.prog w=.ok (.enter c args) w
 calls:∀x y V,Calls Tryd.prog c #[.agg (AC (val x)).toArray,.agg (AC (val y)).toArray] V λe w'=>∃k:Int,e=.returned (int i64 k)∧(k<0↔lt x y=true)∧Below V.heap.size V w'
theorem AP{P:Program}{ops:Array Oper}{w:World}{Q:Act→Prop}{op:Oper}{rest:List Oper}{a:Act}(hw:Region.wanted op (yielded ops a.tmps)=true)(ty:TypeId)(x:Operand)(ho:op.op=.load ty x)
  (b o:Nat) (hx:a.eval x=.pointer (some ⟨b,o,none⟩)) (cs:List Value) (d:TypeDesc) (hc:w.rangeAt b o cs)
  (hu:P.underlying ty=some d) (hd:d.isRow=true) (hi:(P.info? ty).map (·.size)=some cs.length)
  (h:wpStill P ops w Q rest (a.put op.dst (.agg cs.toArray))):wpStill P ops w Q (op::rest) a:=by
 unfold wpStill;rw [if_pos hw];unfold Oper.still execOp;simp only [ho,hx,Instr.loadAt,Instr.sureAddr,Sem.run_bind,Sem.run_pure,Result.andThen_ok,run_loadVar_mid w b o ty cs d hc hu hd hi];exact ⟨rfl,h⟩
def IT(val:α→Sgn)(lt:α→α→Bool)(g o N:Nat)(X:Nat→α)(a b:Nat)(w:World)(e:Ending)(w':World):Prop:=e=.returned (.tuple #[])∧∃Y,RowS val g o N Y w'∧ButOne g w w'∧Stb lt X Y a b∧Srt lt Y a b
theorem Rl(val:α→Sgn)(lt:α→α→Bool)(c:Nat)(hc:CmpOk val lt c)(g o cap N a b:Nat)(X:Nat→α)(w:World)(h1:a≤b)(h2:b≤N)(hN:N≤1000000)(hR:RowS val g o N X w) :
  Calls Tryd.prog 56 #[.slice (some ⟨g,o,none⟩) N cap,int i64 a,int i64 b,.func (.func c) #[] #[]] w (IT val lt g o N X a b w):=by
 have HR:=qh hR;have hE:=hc.enter;have HC:=qh hc;clear hR hc;go_enter Tryd.func56,Tryd.ntmps56;go_wp2_with fail;go_loopw [8] (λiv wr=>∃(i:Nat) (Y:Nat→α),iv=int i64 i∧a<i∧(i≤b∨i=a+1)∧Hid (RowS val g o N Y wr)∧Hid (ButOne g w wr)∧Hid (Stb lt X Y a b)∧Hid (Srt lt Y a i)) (λiv _=>b+1-(intOf iv).toNat)
 case atStart=>exact ⟨a+1,X,by go_num,by omega,Or.inr rfl,HR,qh (ButOne.refl _ _),qh (Stb.refl _ _ _ _),qh (Srt.one HC.out.swo X a)⟩
 case round =>
  obtain ⟨i,Y,rfl,hM,hO,hr,hb,hs,hd⟩:=hrel;by_cases hP:i<b
  ·have hl:(i:Int)<(b:Int):=by omega
   go_wp2_with fail;go_loopw [9] (λjv wr2=>∃(j:Nat) (Z:Nat→α),jv=int i64 j∧a≤j∧j≤i∧Hid (RowS val g o N Z wr2)∧Hid (ButOne g w wr2)∧Hid (Stb lt X Z a b)∧Hid (InsJ lt Z a i j)) (λjv _=>(intOf jv).toNat)
   case atStart=>exact ⟨i,Y,rfl,by omega,by omega,hr,hb,hs,qh (InsJ.start hd.out)⟩
   case round =>
    obtain ⟨j,Z,rfl,hQ,hF,hr,hb,hs,hd⟩:=hrel;by_cases hT:a<j
    ·obtain ⟨k,rfl⟩:∃k,j=k+1:=⟨j-1,by omega⟩
     have hj:(a:Int)<(k:Int)+1:=by omega
     have e0:((k:Int)+1).toNat=k+1:=by omega
     have p0:(0:Int)≤(k:Int)+1:=by omega
     have q1:(k:Int)+1<(N:Int):=by omega
     have q2:(k:Int)<(N:Int):=by omega
     have wk:IntKind.i64.wrap (k:Int)=(k:Int):=IntWalk.i64_in _ (by omega);have HA:=qh (hr.out.block (w':=wr.drew) rfl).at_;have HD:=qh (And.intro (hr.out.block (w':=wr.drew) rfl) (hb.out.trans (ButOne.of_below (Below.refl _ wr).drew)));go_wp2_with fail;refine AU (λw2=>w2=wr.drew) 14 (by kernel_rfl) (by kernel_rfl) rfl ?_;intro w2 hS;subst hS;simp only [List.take_succ_cons,List.take_zero,List.drop_succ_cons,List.drop_zero]
     iterate 8 still_step
     refine AP (by kernel_rfl) 43 _ rfl g (o+(k+1)*14) rfl _ _ (HA.out (k+1) (by omega)) Tryd.underlying43 rfl (by kernel_rfl) ?_
     try simp only [Act.put,qA,qB,qC,qD,qE,qF]
     iterate 4 still_step
     refine AP (by kernel_rfl) 43 _ rfl g (o+k*14) rfl _ _ (HA.out k (by omega)) Tryd.underlying43 rfl (by kernel_rfl) ?_
     try simp only [Act.put,qA,qB,qC,qD,qE,qF]
     refine wpStill_nil ?_;go_wp2_with fail;refine (HC.out.calls _ _ _).mono ?_;rintro e wr3 ⟨kk,rfl,hA,hC⟩;have hG:=qh (HD.out.1.below hC);have hH:=qh (HD.out.2.trans (ButOne.of_below hC));clear hC HA HD
     cases hv:lt (Z (k+1)) (Z k) with
     | true =>
      have hk:kk<0:=hA.2 hv;have HV:=qh hv;clear hA hv;have hD:=qh (hG.out.block (w':=wr3.drew) rfl);have hL:=qh (hH.out.trans (ButOne.of_below (Below.refl _ wr3).drew));have HA:=qh hD.out.at_;have ht:=λk (hk:k<N)=>hD.out.there hk
      have HT:=qh ht;clear ht;go_wp2_with fail;clear hk hj hl;refine wp_region_held (S:=λ_=>True) (by kernel_rfl) ?_;change wpAnyH _ _ _ _ _ _ _ _ wr3.drew;generalize wr3.drew=W2 at *;refine tkH (i:=0) (oi:=_) (v:=.slice (some ⟨g,o,none⟩) N cap) rfl (by kernel_rfl) (λ_ _ _ h=>h) (λV=>by go_simp) ?_
      try simp only [Act.put,qA,qB,qC,qD,qE,qF]
      refine tkH (i:=1) (oi:=_) (v:=int i64 ((k:Int)+1)) rfl (by kernel_rfl) (λ_ _ _ h=>h) (λV=>by go_simp) ?_
      try simp only [Act.put,qA,qB,qC,qD,qE,qF]
      refine tkH (i:=2) (oi:=_) (v:=.slice (some ⟨g,o,none⟩) N cap) rfl (by kernel_rfl) (λ_ _ _ h=>h) (λV=>by go_simp) ?_
      try simp only [Act.put,qA,qB,qC,qD,qE,qF]
      refine tkH (i:=3) (oi:=_) (v:=int i64 ((k:Int)+1)) rfl (by kernel_rfl) (λ_ _ _ h=>h) (λV=>by go_simp) ?_
      try simp only [Act.put,qA,qB,qC,qD,qE,qF]
      refine tkH (i:=4) (oi:=_) (v:=int i64 (k:Nat)) rfl (by kernel_rfl) (λ_ _ _ h=>h) (λV=>by go_simp) ?_
      try simp only [Act.put,qA,qB,qC,qD,qE,qF]
      refine tkH (i:=5) (oi:=_) (v:=.slice (some ⟨g,o,none⟩) N cap) rfl (by kernel_rfl) (λ_ _ _ h=>h) (λV=>by go_simp) ?_
      try simp only [Act.put,qA,qB,qC,qD,qE,qF]
      refine tkH (i:=6) (oi:=_) (v:=int i64 ((k:Int)+1)) rfl (by kernel_rfl) (λ_ _ _ h=>h) (λV=>by go_simp) ?_
      try simp only [Act.put,qA,qB,qC,qD,qE,qF]
      refine tkH (i:=7) (oi:=_) (v:=int i64 (k:Nat)) rfl (by kernel_rfl) (λ_ _ _ h=>h) (λV=>by go_simp) ?_
      try simp only [Act.put,qA,qB,qC,qD,qE,qF]
      refine tkH (i:=8) (oi:=_) (v:=.pointer (some ⟨g,o+k*14,none⟩)) rfl (by kernel_rfl) (λ_ _ _ h=>h) (λV=>by go_simp) ?_
      try simp only [Act.put,qA,qB,qC,qD,qE,qF]
      refine tkH (i:=10) (oi:=_) (v:=.slice (some ⟨g,o,none⟩) N cap) rfl (by kernel_rfl) (λ_ _ _ h=>h) (λV=>by go_simp) ?_
      try simp only [Act.put,qA,qB,qC,qD,qE,qF]
      refine tkH (i:=11) (oi:=_) (v:=int i64 ((k:Int)+1)) rfl (by kernel_rfl) (λ_ _ _ h=>h) (λV=>by go_simp) ?_
      try simp only [Act.put,qA,qB,qC,qD,qE,qF]
      refine tkH (i:=12) (oi:=_) (v:=.pointer (some ⟨g,o+(k+1)*14,none⟩)) rfl (by kernel_rfl) (λ_ _ _ h=>h) (λV=>by go_simp) ?_
      try simp only [Act.put,qA,qB,qC,qD,qE,qF]
      refine wpAnyH_ready (rs:=[9,13]) (by kernel_rfl) (by simp) ?_;refine AllReadyH.cons (o:=_) rfl (λK1 hK=>?_) (AllReadyH.cons (o:=_) rfl (λK1 hK=>?_) AllReadyH.nil);rw [if_pos (by kernel_rfl)];refine wp_load_mid 43 _ rfl g _ rfl _ _ (HA.out k (by omega)) Tryd.underlying43 rfl (by kernel_rfl) ?_;refine hK.out _ _ trivial (λ_=>?_);clear hK K1
      try simp only [Act.put,qA,qB,qC,qD,qE,qF]
      refine EK 13 (by kernel_rfl) (by kernel_rfl) (λK1 hK=>?_);simp only [B6,B9];refine wp_load_mid 43 _ rfl g _ rfl _ _ (HA.out (k+1) (by omega)) Tryd.underlying43 rfl (by kernel_rfl) ?_;refine hK.out _ _ ?_;clear hK K1
      try simp only [Act.put,qA,qB,qC,qD,qE,qF]
      rotate_left
      rw [if_pos (by kernel_rfl)];refine wp_load_mid 43 _ rfl g _ rfl _ _ (HA.out (k+1) (by omega)) Tryd.underlying43 rfl (by kernel_rfl) ?_;refine hK.out _ _ trivial (λ_=>?_);clear hK K1
      try simp only [Act.put,qA,qB,qC,qD,qE,qF]
      refine EK 9 (by kernel_rfl) (by kernel_rfl) (λK1 hK=>?_);simp only [B6,B9];refine wp_load_mid 43 _ rfl g _ rfl _ _ (HA.out k (by omega)) Tryd.underlying43 rfl (by kernel_rfl) ?_;refine hK.out _ _ ?_;clear hK K1
      try simp only [Act.put,qA,qB,qC,qD,qE,qF]
      all_goals
       refine tkH (i:=14) (oi:=_) (v:=.pointer (some ⟨g,o+(k+1)*14,none⟩)) rfl (by kernel_rfl) (λ_ _ _ h=>h) (λV=>by go_simp) ?_
       try simp only [Act.put,qA,qB,qC,qD,qE,qF]
       refine EK 15 (by kernel_rfl) (by kernel_rfl) (λK1 hK=>?_);simp only [B6,B9];refine wp_store_mid 43 _ _ rfl g (o+(k+1)*14) (AC (val (Z k))).toArray rfl rfl (Ex (HT.out (k+1) (by omega)) _) (by kernel_rfl) (D0 _) ?_;refine hK.out _ _ ?_;clear hK K1
       try simp only [Act.put,qA,qB,qC,qD,qE,qF]
       have hI:=qh (World.there_setCells (Ex (HT.out k (by omega)) (val (Z (k+1)))) g (o+(k+1)*14) (AC (val (Z k))));obtain ⟨W3,hB⟩:∃W3,W2.setCells g (o+(k+1)*14) (AC (val (Z k)))=W3:=⟨_,rfl⟩;change wpAnyH _ _ _ _ _ _ _ _ (W2.setCells g (o+(k+1)*14) (AC (val (Z k))));rw [hB];rw [hB] at hI;have hJ:=qh hB;clear hB;refine tkH (i:=16) (oi:=_) (v:=.pointer (some ⟨g,o+k*14,none⟩)) rfl (by kernel_rfl) (λ_ _ _ h=>h) (λV=>by go_simp) ?_
       try simp only [Act.put,qA,qB,qC,qD,qE,qF]
       refine EK 17 (by kernel_rfl) (by kernel_rfl) (λK1 hK=>?_);simp only [B6,B9];refine wp_store_mid 43 _ _ rfl g (o+k*14) (AC (val (Z (k+1)))).toArray rfl rfl hI.out (by kernel_rfl) (D0 _) ?_;refine hK.out _ _ ?_;clear hK K1
       try simp only [Act.put,qA,qB,qC,qD,qE,qF]
       refine wpAnyH_done (by kernel_rfl) ?_ _;clear q1 q2;go_wp2_with fail;go_roundw
       case rel=>exact ⟨k,_,by go_num,by omega,by omega,qh (by
        have:=hD.out.put (i:=k+1) (j:=k) (by omega) (by omega) (by omega);rw [hJ.out] at this
        exact this),qh (hL.out.trans (by rw [← hJ.out];exact RowS.put_but val g o _ _ _ _)),qh (by
        rw [Lo];exact hs.out.trans (So HC.out.swo (by omega) (by omega) HV.out)),qh (by rw [Lo];exact hd.out.step HC.out.swo (by omega) HV.out)⟩
       case measure=>simp [intOf]
     | false =>
      have hk:¬kk<0:=λh=>by rw [hA.1 h] at hv;cases hv
      have HV:=qh hv;clear hA hv;have hU:IntKind.i64.wrap ((i:Int)+1)=(i:Int)+1:=IntWalk.i64_in _ (by omega);go_wp2_with fail;go_roundw
      case rel=>exact ⟨i+1,Z,by go_num,by omega,by omega,hG,hH,hs,qh (hd.out.done HC.out.swo hF (Or.inr ⟨by omega,by simpa using HV.out⟩))⟩
      case measure=>simp [intOf];omega
    ·obtain rfl:a=j:=by omega
     have hj:¬(a:Int)<(a:Int):=by omega
     go_wp2_with fail;go_quiet (fail);go_wp2_with fail;go_roundw
     case rel=>exact ⟨i+1,Z,by go_num,by omega,by omega,qh (hr.out.block rfl),qh (hb.out.trans (ButOne.of_below (Ak (Below.refl _ wr) _))),hs,qh (hd.out.done HC.out.swo hF (Or.inl rfl))⟩
     case measure=>simp [intOf];omega
  ·have hl:¬(i:Int)<(b:Int):=by omega
   go_wp2_with fail;go_end0;exact ⟨rfl,Y,hr.out,hb.out,hs.out,hd.out.part (qn _) (by omega)⟩
end
end
section
open Go Go.RowKit Go.Deep
section
variable {α:Type}
theorem Ub(val:α→Sgn)(lt:α→α→Bool)(c:Nat)(hc:CmpOk val lt c)(g o cap N a m b:Nat)(X:Nat→α)(w:World)(h1:m=a+1)(h2:m<b)(h3:b≤N)(hN:N≤1000000)(hR:RowS val g o N X w)(hu:Srt lt X m b) :
  Calls Tryd.prog 57 #[.slice (some ⟨g,o,none⟩) N cap,int i64 a,int i64 m,int i64 b,.func (.func c) #[] #[]] w (IT val lt g o N X a b w):=by
 have hE:=hc.enter;have HR:=qh hR;have HC:=qh hc;have HU:=qh (show Srt lt X (a+1) b by rw [← h1];exact hu);have hT:a+1≤m:=by omega
 have hU:m≤a+1:=by omega
 clear hR hc hu h1;have w1:IntKind.i64.wrap ((m:Int)-(a:Int))=1:=(IntWalk.i64_in _ (by omega)).trans (by omega);go_enter Tryd.func57,Tryd.ntmps57;go_wp2_with fail;clear w1;go_loopw [10,11] (λiv jv wr=>∃i j:Nat,iv=int i64 i∧jv=int i64 j∧m≤i∧i≤j∧j≤b∧Hid (OneUp lt X a b i j)∧Hid (RowS val g o N X wr)∧Hid (ButOne g w wr)) (λiv jv _=>(intOf jv-intOf iv).toNat)
 case atStart=>exact ⟨m,b,rfl,rfl,qn _,by omega,qn _,qh ⟨by omega,λq q1 q2=>by omega,λq q1 q2=>by omega⟩,HR,qh (ButOne.refl _ _)⟩
 case round =>
  obtain ⟨i,j,rfl,rfl,hJ,hV,hL,hS,hr,hb⟩:=hrel;by_cases hM:i<j
  ·have hl:(i:Int)<(j:Int):=by omega
   obtain ⟨h,hh⟩:∃h:Nat,h=(i+j) / 2:=⟨_,rfl⟩;have hO:((i:Int)+(j:Int)) / 2=(h:Int):=by omega
   have q0:i≤h:=by omega
   have q1:h<j:=by omega
   have q2:(h:Int)<(N:Int):=by omega
   have q3:(a:Int)<(N:Int):=by omega
   clear hh;have HA:=qh (hr.out.block (w':=wr.drew) rfl).at_;have HD:=qh (And.intro (hr.out.block (w':=wr.drew) rfl) (hb.out.trans (ButOne.of_below (Below.refl _ wr).drew)));go_wp2_with fail;refine AU (λw2=>w2=wr.drew) 9 (by kernel_rfl) (by kernel_rfl) rfl ?_;intro w2 hS;subst hS;simp only [List.take_succ_cons,List.take_zero,List.drop_succ_cons,List.drop_zero]
   iterate 4 still_step
   refine AP (by kernel_rfl) 43 _ rfl g (o+h*14) rfl _ _ (HA.out h (by omega)) Tryd.underlying43 rfl (by kernel_rfl) ?_
   try simp only [Act.put,qA,qB,qC,qD,qE,qF]
   iterate 3 still_step
   refine AP (by kernel_rfl) 43 _ rfl g (o+a*14) rfl _ _ (HA.out a (by omega)) Tryd.underlying43 rfl (by kernel_rfl) ?_
   try simp only [Act.put,qA,qB,qC,qD,qE,qF]
   refine wpStill_nil ?_;go_wp2_with fail;refine (HC.out.calls _ _ _).mono ?_;rintro e wr3 ⟨kk,rfl,hA,hC⟩;have hF:=qh (HD.out.1.below hC);have hG:=qh (HD.out.2.trans (ButOne.of_below hC));clear hC HA HD
   cases hv:lt (X h) (X a) with
   | true =>
    have hk:kk<0:=hA.2 hv;have HV:=qh hv;clear hA hv;go_wp2_with fail;go_roundw
    case rel=>exact ⟨h+1,j,by go_num,rfl,by omega,by omega,hL,qh (hS.out.up HC.out.swo HU.out q0 q1 HV.out),hF,hG⟩
    case measure=>simp [intOf];omega
   | false =>
    have hk:¬kk<0:=λh=>by rw [hA.1 h] at hv;cases hv
    have HV:=qh hv;clear hA hv;go_wp2_with fail;go_roundw
    case rel=>exact ⟨i,h,rfl,rfl,hJ,q0,by omega,qh (hS.out.dn HC.out.swo HU.out q0 q1 HV.out),hF,hG⟩
    case measure=>simp [intOf];omega
  ·have hl:¬(i:Int)<(j:Int):=by omega
   obtain rfl:i=j:=by omega
   have wi:IntKind.i64.wrap ((i:Int)-1)=(i:Int)-1:=IntWalk.i64_in _ (by omega);have HF:=qh (hS.out.fin HC.out.swo HU.out);go_wp2_with fail;clear hl;go_loopw [13] (λkv wr=>∃k:Nat,kv=int i64 k∧a≤k∧k+1≤i∧Hid (RowS val g o N (rot X a (a+1) (k+1)) wr)∧Hid (ButOne g w wr)) (λkv _=>i-(intOf kv).toNat)
   case atStart=>exact ⟨a,rfl,qn _,by omega,qh (by rw [Lb X a (a+1) (by omega)];exact hr.out),hb⟩
   case round =>
    obtain ⟨k,rfl,hP,hW,hr,hb⟩:=hrel;by_cases hM:k+1<i
    ·have hl:(k:Int)<(i:Int)-1:=by omega
     have e0:((k:Int)+1).toNat=k+1:=by omega
     have p0:(0:Int)≤(k:Int)+1:=by omega
     have q1:(k:Int)+1<(N:Int):=by omega
     have q2:(k:Int)<(N:Int):=by omega
     have wk:IntKind.i64.wrap ((k:Int)+1)=(k:Int)+1:=IntWalk.i64_in _ (by omega);have hD:=qh (hr.out.block (w':=wr.drew) rfl);have hQ:=qh (hb.out.trans (ButOne.of_below (Below.refl _ wr).drew));have HA:=qh hD.out.at_;have ht:=λk (hk:k<N)=>hD.out.there hk
     have HT:=qh ht;clear ht;go_wp2_with fail;clear hl;refine wp_region_held (S:=λ_=>True) (by kernel_rfl) ?_;change wpAnyH _ _ _ _ _ _ _ _ wr.drew;generalize wr.drew=W2 at *;refine tkH (i:=0) (oi:=_) (v:=.slice (some ⟨g,o,none⟩) N cap) rfl (by kernel_rfl) (λ_ _ _ h=>h) (λV=>by go_simp) ?_
     try simp only [Act.put,qA,qB,qC,qD,qE,qF]
     refine tkH (i:=1) (oi:=_) (v:=int i64 (k:Nat)) rfl (by kernel_rfl) (λ_ _ _ h=>h) (λV=>by go_simp) ?_
     try simp only [Act.put,qA,qB,qC,qD,qE,qF]
     refine tkH (i:=2) (oi:=_) (v:=.slice (some ⟨g,o,none⟩) N cap) rfl (by kernel_rfl) (λ_ _ _ h=>h) (λV=>by go_simp) ?_
     try simp only [Act.put,qA,qB,qC,qD,qE,qF]
     refine tkH (i:=3) (oi:=_) (v:=int i64 (k:Nat)) rfl (by kernel_rfl) (λ_ _ _ h=>h) (λV=>by go_simp) ?_
     try simp only [Act.put,qA,qB,qC,qD,qE,qF]
     refine tkH (i:=4) (oi:=_) (v:=int i64 ((k:Int)+1)) rfl (by kernel_rfl) (λ_ _ _ h=>h) (λV=>by go_simp) ?_
     try simp only [Act.put,qA,qB,qC,qD,qE,qF]
     refine tkH (i:=5) (oi:=_) (v:=.slice (some ⟨g,o,none⟩) N cap) rfl (by kernel_rfl) (λ_ _ _ h=>h) (λV=>by go_simp) ?_
     try simp only [Act.put,qA,qB,qC,qD,qE,qF]
     refine tkH (i:=6) (oi:=_) (v:=int i64 (k:Nat)) rfl (by kernel_rfl) (λ_ _ _ h=>h) (λV=>by go_simp) ?_
     try simp only [Act.put,qA,qB,qC,qD,qE,qF]
     refine tkH (i:=7) (oi:=_) (v:=int i64 ((k:Int)+1)) rfl (by kernel_rfl) (λ_ _ _ h=>h) (λV=>by go_simp) ?_
     try simp only [Act.put,qA,qB,qC,qD,qE,qF]
     refine tkH (i:=8) (oi:=_) (v:=.pointer (some ⟨g,o+(k+1)*14,none⟩)) rfl (by kernel_rfl) (λ_ _ _ h=>h) (λV=>by go_simp) ?_
     try simp only [Act.put,qA,qB,qC,qD,qE,qF]
     refine tkH (i:=10) (oi:=_) (v:=.slice (some ⟨g,o,none⟩) N cap) rfl (by kernel_rfl) (λ_ _ _ h=>h) (λV=>by go_simp) ?_
     try simp only [Act.put,qA,qB,qC,qD,qE,qF]
     refine tkH (i:=11) (oi:=_) (v:=int i64 (k:Nat)) rfl (by kernel_rfl) (λ_ _ _ h=>h) (λV=>by go_simp) ?_
     try simp only [Act.put,qA,qB,qC,qD,qE,qF]
     refine tkH (i:=12) (oi:=_) (v:=.pointer (some ⟨g,o+k*14,none⟩)) rfl (by kernel_rfl) (λ_ _ _ h=>h) (λV=>by go_simp) ?_
     try simp only [Act.put,qA,qB,qC,qD,qE,qF]
     refine wpAnyH_ready (rs:=[9,13]) (by kernel_rfl) (by simp) ?_;refine AllReadyH.cons (o:=_) rfl (λK1 hK=>?_) (AllReadyH.cons (o:=_) rfl (λK1 hK=>?_) AllReadyH.nil);rw [if_pos (by kernel_rfl)];refine wp_load_mid 43 _ rfl g _ rfl _ _ (HA.out (k+1) (by omega)) Tryd.underlying43 rfl (by kernel_rfl) ?_;refine hK.out _ _ trivial (λ_=>?_);clear hK K1
     try simp only [Act.put,qA,qB,qC,qD,qE,qF]
     refine EK 13 (by kernel_rfl) (by kernel_rfl) (λK1 hK=>?_);simp only [B6,B9];refine wp_load_mid 43 _ rfl g _ rfl _ _ (HA.out k (by omega)) Tryd.underlying43 rfl (by kernel_rfl) ?_;refine hK.out _ _ ?_;clear hK K1
     try simp only [Act.put,qA,qB,qC,qD,qE,qF]
     rotate_left
     rw [if_pos (by kernel_rfl)];refine wp_load_mid 43 _ rfl g _ rfl _ _ (HA.out k (by omega)) Tryd.underlying43 rfl (by kernel_rfl) ?_;refine hK.out _ _ trivial (λ_=>?_);clear hK K1
     try simp only [Act.put,qA,qB,qC,qD,qE,qF]
     refine EK 9 (by kernel_rfl) (by kernel_rfl) (λK1 hK=>?_);simp only [B6,B9];refine wp_load_mid 43 _ rfl g _ rfl _ _ (HA.out (k+1) (by omega)) Tryd.underlying43 rfl (by kernel_rfl) ?_;refine hK.out _ _ ?_;clear hK K1
     try simp only [Act.put,qA,qB,qC,qD,qE,qF]
     all_goals
      refine tkH (i:=14) (oi:=_) (v:=.pointer (some ⟨g,o+k*14,none⟩)) rfl (by kernel_rfl) (λ_ _ _ h=>h) (λV=>by go_simp) ?_
      try simp only [Act.put,qA,qB,qC,qD,qE,qF]
      refine EK 15 (by kernel_rfl) (by kernel_rfl) (λK1 hK=>?_);simp only [B6,B9];refine wp_store_mid 43 _ _ rfl g (o+k*14) (AC (val (rot X a (a+1) (k+1) (k+1)))).toArray rfl rfl (Ex (HT.out k (by omega)) _) (by kernel_rfl) (D0 _) ?_;refine hK.out _ _ ?_;clear hK K1
      try simp only [Act.put,qA,qB,qC,qD,qE,qF]
      have hH:=qh (World.there_setCells (Ex (HT.out (k+1) (by omega)) (val (rot X a (a+1) (k+1) k))) g (o+k*14) (AC (val (rot X a (a+1) (k+1) (k+1)))));obtain ⟨W3,hB⟩:∃W3,W2.setCells g (o+k*14) (AC (val (rot X a (a+1) (k+1) (k+1))))=W3:=⟨_,rfl⟩;change wpAnyH _ _ _ _ _ _ _ _ (W2.setCells g (o+k*14) (AC (val (rot X a (a+1) (k+1) (k+1)))));rw [hB];rw [hB] at hH;have hI:=qh hB;clear hB;refine tkH (i:=16) (oi:=_) (v:=.pointer (some ⟨g,o+(k+1)*14,none⟩)) rfl (by kernel_rfl) (λ_ _ _ h=>h) (λV=>by go_simp) ?_
      try simp only [Act.put,qA,qB,qC,qD,qE,qF]
      refine EK 17 (by kernel_rfl) (by kernel_rfl) (λK1 hK=>?_);simp only [B6,B9];refine wp_store_mid 43 _ _ rfl g (o+(k+1)*14) (AC (val (rot X a (a+1) (k+1) k))).toArray rfl rfl hH.out (by kernel_rfl) (D0 _) ?_;refine hK.out _ _ ?_;clear hK K1
      try simp only [Act.put,qA,qB,qC,qD,qE,qF]
      refine wpAnyH_done (by kernel_rfl) ?_ _;clear q1 q2;go_wp2_with fail;go_roundw
      case rel=>exact ⟨k+1,by go_num,by omega,by omega,qh (by
       have:=hD.out.put (i:=k) (j:=k+1) (by omega) (by omega) (by omega);rw [hI.out,Ot X hP] at this
       exact this),qh (hQ.out.trans (by rw [← hI.out];exact RowS.put_but val g o _ _ _ _))⟩
      case measure=>simp [intOf];omega
    ·have hl:¬(k:Int)<(i:Int)-1:=by omega
     have HI:=qh (show i=k+1 by omega);go_wp2_with fail;go_end0;exact ⟨rfl,_,by rw [← HI.out] at hr;exact hr.out,hb.out,HF.out.1,HF.out.2⟩
theorem Uc(val:α→Sgn)(lt:α→α→Bool)(c:Nat)(hc:CmpOk val lt c)(g o cap N a m b:Nat)(X:Nat→α)(w:World)(h1:a+1<m)(h2:b=m+1)(h3:b≤N)(hN:N≤1000000)(hR:RowS val g o N X w)(hu:Srt lt X a m) :
  Calls Tryd.prog 57 #[.slice (some ⟨g,o,none⟩) N cap,int i64 a,int i64 m,int i64 b,.func (.func c) #[] #[]] w (IT val lt g o N X a b w):=by
 have hE:=hc.enter;have HR:=qh hR;have HC:=qh hc;have HU:=qh hu;have HM:=qh h2;have hU:m+1≤b:=by omega
 have hV:b≤m+1:=by omega
 clear hR hc hu h2;have w1:IntKind.i64.wrap ((m:Int)-(a:Int))=((m-a:Nat):Int):=(IntWalk.i64_in _ (by omega)).trans (by omega);have w2:IntKind.i64.wrap ((b:Int)-(m:Int))=1:=(IntWalk.i64_in _ (by omega)).trans (by omega);have w3:¬((m-a:Nat):Int)=1:=by omega
 have w4:(((m-a:Nat):Int)==1)=false:=by simpa using w3
 generalize hF:m-a=ma at *;have hW:=qh hF;clear hF;go_enter Tryd.func57,Tryd.ntmps57;go_wp2_with fail;clear w1 w2 w3 w4;go_loopw [14,15] (λiv jv wr=>∃i j:Nat,iv=int i64 i∧jv=int i64 j∧a≤i∧i≤j∧j≤m∧Hid (OneDn lt X a m i j)∧Hid (RowS val g o N X wr)∧Hid (ButOne g w wr)) (λiv jv _=>(intOf jv-intOf iv).toNat)
 case atStart=>exact ⟨a,m,rfl,rfl,qn _,by omega,qn _,qh ⟨by omega,λq q1 q2=>by omega,λq q1 q2=>by omega⟩,HR,qh (ButOne.refl _ _)⟩
 case round =>
  obtain ⟨i,j,rfl,rfl,hL,hX,hM,hS,hr,hb⟩:=hrel;by_cases hO:i<j
  ·have hl:(i:Int)<(j:Int):=by omega
   obtain ⟨h,hh⟩:∃h:Nat,h=(i+j) / 2:=⟨_,rfl⟩;have hP:((i:Int)+(j:Int)) / 2=(h:Int):=by omega
   have q0:i≤h:=by omega
   have q1:h<j:=by omega
   have q2:(h:Int)<(N:Int):=by omega
   have q3:(m:Int)<(N:Int):=by omega
   clear hh;have HA:=qh (hr.out.block (w':=wr.drew) rfl).at_;have HD:=qh (And.intro (hr.out.block (w':=wr.drew) rfl) (hb.out.trans (ButOne.of_below (Below.refl _ wr).drew)));go_wp2_with fail;refine AU (λw2=>w2=wr.drew) 9 (by kernel_rfl) (by kernel_rfl) rfl ?_;intro w2 hS;subst hS;simp only [List.take_succ_cons,List.take_zero,List.drop_succ_cons,List.drop_zero]
   iterate 4 still_step
   refine AP (by kernel_rfl) 43 _ rfl g (o+m*14) rfl _ _ (HA.out m (by omega)) Tryd.underlying43 rfl (by kernel_rfl) ?_
   try simp only [Act.put,qA,qB,qC,qD,qE,qF]
   iterate 3 still_step
   refine AP (by kernel_rfl) 43 _ rfl g (o+h*14) rfl _ _ (HA.out h (by omega)) Tryd.underlying43 rfl (by kernel_rfl) ?_
   try simp only [Act.put,qA,qB,qC,qD,qE,qF]
   refine wpStill_nil ?_;go_wp2_with fail;refine (HC.out.calls _ _ _).mono ?_;rintro e wr3 ⟨kk,rfl,hA,hC⟩;have hG:=qh (HD.out.1.below hC);have hH:=qh (HD.out.2.trans (ButOne.of_below hC));clear hC HA HD
   cases hv:lt (X m) (X h) with
   | true =>
    have hk:kk<0:=hA.2 hv;have HV:=qh hv;clear hA hv;go_wp2_with fail;go_roundw
    case rel=>exact ⟨i,h,rfl,rfl,hL,q0,by omega,qh (hS.out.dn HC.out.swo HU.out q0 q1 HV.out),hG,hH⟩
    case measure=>simp [intOf];omega
   | false =>
    have hk:¬kk<0:=λh=>by rw [hA.1 h] at hv;cases hv
    have hY:decide (kk<0)=false:=by simpa using hk
    clear hk;have HV:=qh hv;clear hA hv;go_wp2_with fail;go_roundw
    case rel=>exact ⟨h+1,j,by go_num,rfl,by omega,by omega,hM,qh (hS.out.up HC.out.swo HU.out q0 q1 HV.out),hG,hH⟩
    case measure=>simp [intOf];omega
  ·have hl:¬(i:Int)<(j:Int):=by omega
   obtain rfl:i=j:=by omega
   have HF:=qh (hS.out.fin HC.out.swo HU.out);go_wp2_with fail;clear hl;go_loopw [17] (λkv wr=>∃k:Nat,kv=int i64 k∧i≤k∧k≤m∧Hid (RowS val g o N (rot X k m (m+1)) wr)∧Hid (ButOne g w wr)) (λkv _=>(intOf kv).toNat)
   case atStart=>exact ⟨m,rfl,by omega,qn _,qh (by rw [Jq X m (m+1) (by omega)];exact hr.out),hb⟩
   case round =>
    obtain ⟨k,rfl,hZ,hQ,hr,hb⟩:=hrel;by_cases hO:i<k
    ·obtain ⟨k,rfl⟩:∃k',k=k'+1:=⟨k-1,by omega⟩
     have hl:(i:Int)<(k:Int)+1:=by omega
     have e0:((k:Int)+1).toNat=k+1:=by omega
     have p0:(0:Int)≤(k:Int)+1:=by omega
     have q1:(k:Int)+1<(N:Int):=by omega
     have q2:(k:Int)<(N:Int):=by omega
     have wk:IntKind.i64.wrap (k:Int)=(k:Int):=IntWalk.i64_in _ (by omega);have hD:=qh (hr.out.block (w':=wr.drew) rfl);have hT:=qh (hb.out.trans (ButOne.of_below (Below.refl _ wr).drew));have HA:=qh hD.out.at_;have ht:=λk (hk:k<N)=>hD.out.there hk
     have HT:=qh ht;clear ht;go_wp2_with fail;clear hl;refine wp_region_held (S:=λ_=>True) (by kernel_rfl) ?_;change wpAnyH _ _ _ _ _ _ _ _ wr.drew;generalize wr.drew=W2 at *;refine tkH (i:=0) (oi:=_) (v:=.slice (some ⟨g,o,none⟩) N cap) rfl (by kernel_rfl) (λ_ _ _ h=>h) (λV=>by go_simp) ?_
     try simp only [Act.put,qA,qB,qC,qD,qE,qF]
     refine tkH (i:=1) (oi:=_) (v:=int i64 ((k:Int)+1)) rfl (by kernel_rfl) (λ_ _ _ h=>h) (λV=>by go_simp) ?_
     try simp only [Act.put,qA,qB,qC,qD,qE,qF]
     refine tkH (i:=2) (oi:=_) (v:=.slice (some ⟨g,o,none⟩) N cap) rfl (by kernel_rfl) (λ_ _ _ h=>h) (λV=>by go_simp) ?_
     try simp only [Act.put,qA,qB,qC,qD,qE,qF]
     refine tkH (i:=3) (oi:=_) (v:=int i64 ((k:Int)+1)) rfl (by kernel_rfl) (λ_ _ _ h=>h) (λV=>by go_simp) ?_
     try simp only [Act.put,qA,qB,qC,qD,qE,qF]
     refine tkH (i:=4) (oi:=_) (v:=int i64 (k:Nat)) rfl (by kernel_rfl) (λ_ _ _ h=>h) (λV=>by go_simp) ?_
     try simp only [Act.put,qA,qB,qC,qD,qE,qF]
     refine tkH (i:=5) (oi:=_) (v:=.slice (some ⟨g,o,none⟩) N cap) rfl (by kernel_rfl) (λ_ _ _ h=>h) (λV=>by go_simp) ?_
     try simp only [Act.put,qA,qB,qC,qD,qE,qF]
     refine tkH (i:=6) (oi:=_) (v:=int i64 ((k:Int)+1)) rfl (by kernel_rfl) (λ_ _ _ h=>h) (λV=>by go_simp) ?_
     try simp only [Act.put,qA,qB,qC,qD,qE,qF]
     refine tkH (i:=7) (oi:=_) (v:=int i64 (k:Nat)) rfl (by kernel_rfl) (λ_ _ _ h=>h) (λV=>by go_simp) ?_
     try simp only [Act.put,qA,qB,qC,qD,qE,qF]
     refine tkH (i:=8) (oi:=_) (v:=.pointer (some ⟨g,o+k*14,none⟩)) rfl (by kernel_rfl) (λ_ _ _ h=>h) (λV=>by go_simp) ?_
     try simp only [Act.put,qA,qB,qC,qD,qE,qF]
     refine tkH (i:=10) (oi:=_) (v:=.slice (some ⟨g,o,none⟩) N cap) rfl (by kernel_rfl) (λ_ _ _ h=>h) (λV=>by go_simp) ?_
     try simp only [Act.put,qA,qB,qC,qD,qE,qF]
     refine tkH (i:=11) (oi:=_) (v:=int i64 ((k:Int)+1)) rfl (by kernel_rfl) (λ_ _ _ h=>h) (λV=>by go_simp) ?_
     try simp only [Act.put,qA,qB,qC,qD,qE,qF]
     refine tkH (i:=12) (oi:=_) (v:=.pointer (some ⟨g,o+(k+1)*14,none⟩)) rfl (by kernel_rfl) (λ_ _ _ h=>h) (λV=>by go_simp) ?_
     try simp only [Act.put,qA,qB,qC,qD,qE,qF]
     refine wpAnyH_ready (rs:=[9,13]) (by kernel_rfl) (by simp) ?_;refine AllReadyH.cons (o:=_) rfl (λK1 hK=>?_) (AllReadyH.cons (o:=_) rfl (λK1 hK=>?_) AllReadyH.nil);rw [if_pos (by kernel_rfl)];refine wp_load_mid 43 _ rfl g _ rfl _ _ (HA.out k (by omega)) Tryd.underlying43 rfl (by kernel_rfl) ?_;refine hK.out _ _ trivial (λ_=>?_);clear hK K1
     try simp only [Act.put,qA,qB,qC,qD,qE,qF]
     refine EK 13 (by kernel_rfl) (by kernel_rfl) (λK1 hK=>?_);simp only [B6,B9];refine wp_load_mid 43 _ rfl g _ rfl _ _ (HA.out (k+1) (by omega)) Tryd.underlying43 rfl (by kernel_rfl) ?_;refine hK.out _ _ ?_;clear hK K1
     try simp only [Act.put,qA,qB,qC,qD,qE,qF]
     rotate_left
     rw [if_pos (by kernel_rfl)];refine wp_load_mid 43 _ rfl g _ rfl _ _ (HA.out (k+1) (by omega)) Tryd.underlying43 rfl (by kernel_rfl) ?_;refine hK.out _ _ trivial (λ_=>?_);clear hK K1
     try simp only [Act.put,qA,qB,qC,qD,qE,qF]
     refine EK 9 (by kernel_rfl) (by kernel_rfl) (λK1 hK=>?_);simp only [B6,B9];refine wp_load_mid 43 _ rfl g _ rfl _ _ (HA.out k (by omega)) Tryd.underlying43 rfl (by kernel_rfl) ?_;refine hK.out _ _ ?_;clear hK K1
     try simp only [Act.put,qA,qB,qC,qD,qE,qF]
     all_goals
      refine tkH (i:=14) (oi:=_) (v:=.pointer (some ⟨g,o+(k+1)*14,none⟩)) rfl (by kernel_rfl) (λ_ _ _ h=>h) (λV=>by go_simp) ?_
      try simp only [Act.put,qA,qB,qC,qD,qE,qF]
      refine EK 15 (by kernel_rfl) (by kernel_rfl) (λK1 hK=>?_);simp only [B6,B9];refine wp_store_mid 43 _ _ rfl g (o+(k+1)*14) (AC (val (rot X (k+1) m (m+1) k))).toArray rfl rfl (Ex (HT.out (k+1) (by omega)) _) (by kernel_rfl) (D0 _) ?_;refine hK.out _ _ ?_;clear hK K1
      try simp only [Act.put,qA,qB,qC,qD,qE,qF]
      have hI:=qh (World.there_setCells (Ex (HT.out k (by omega)) (val (rot X (k+1) m (m+1) (k+1)))) g (o+(k+1)*14) (AC (val (rot X (k+1) m (m+1) k))));obtain ⟨W3,hB⟩:∃W3,W2.setCells g (o+(k+1)*14) (AC (val (rot X (k+1) m (m+1) k)))=W3:=⟨_,rfl⟩;change wpAnyH _ _ _ _ _ _ _ _ (W2.setCells g (o+(k+1)*14) (AC (val (rot X (k+1) m (m+1) k))));rw [hB];rw [hB] at hI;have hJ:=qh hB;clear hB;refine tkH (i:=16) (oi:=_) (v:=.pointer (some ⟨g,o+k*14,none⟩)) rfl (by kernel_rfl) (λ_ _ _ h=>h) (λV=>by go_simp) ?_
      try simp only [Act.put,qA,qB,qC,qD,qE,qF]
      refine EK 17 (by kernel_rfl) (by kernel_rfl) (λK1 hK=>?_);simp only [B6,B9];refine wp_store_mid 43 _ _ rfl g (o+k*14) (AC (val (rot X (k+1) m (m+1) (k+1)))).toArray rfl rfl hI.out (by kernel_rfl) (D0 _) ?_;refine hK.out _ _ ?_;clear hK K1
      try simp only [Act.put,qA,qB,qC,qD,qE,qF]
      refine wpAnyH_done (by kernel_rfl) ?_ _;clear q1 q2;go_wp2_with fail;go_roundw
      case rel=>exact ⟨k,by go_num,by omega,by omega,qh (by
       have:=hD.out.put (i:=k+1) (j:=k) (by omega) (by omega) (by omega);rw [hJ.out,Qp X hQ] at this
       exact this),qh (hT.out.trans (by rw [← hJ.out];exact RowS.put_but val g o _ _ _ _))⟩
      case measure=>simp [intOf]
    ·have hl:¬(i:Int)<(k:Int):=by omega
     obtain rfl:i=k:=by omega
     go_wp2_with fail;go_end0;exact ⟨rfl,_,hr.out,hb.out,by rw [HM.out];exact HF.out.1,by rw [HM.out];exact HF.out.2⟩
end
end
section
open Go Go.RowKit Go.Deep
section
variable {α:Type}
def Crs(lt:α→α→Bool)(Y:Nat→α)(a d b:Nat):Prop:=∀p q,a≤p→p<d→d≤q→q<b→lt (Y q) (Y p)=false
theorem Crs.stb{lt:α→α→Bool}{Y Z:Nat→α}{a d b:Nat}(hS:SwO lt)(h:Crs lt Y a d b)(k:Stb lt Y Z a d):Crs lt Z a d b:=λp q p1 p2 q1 q2=>by
 obtain ⟨p',b1,b2,b3⟩:=k.mem hS p1 p2;rw [← b3,k.out q (Or.inr q1)];exact h p' q b1 b2 q1 q2
def OM(val:α→Sgn)(lt:α→α→Bool)(c g o cap N z:Nat):Prop:=∀a m b:Nat,b-a<z→a<m→m<b→b≤N→∀(Y:Nat→α) (V:World),RowS val g o N Y V→(Srt lt Y a m∧Srt lt Y m b)→Calls Tryd.prog 57 #[.slice (some ⟨g,o,none⟩) N cap,int i64 a,int i64 m,int i64 b,.func (.func c) #[] #[]] V (IT val lt g o N Y a b V)
noncomputable def FP:Code:=(Tryd.f57.body).getD .skip
noncomputable def Kc:Code:=Ab 10 FP
noncomputable def Kd:Code:=Ab 11 FP
noncomputable def GS:Code:=Ab 7 FP
theorem VM(val:α→Sgn)(lt:α→α→Bool)(c:Nat)(hS:SwO lt)(g o cap N a m b mid s e:Nat)(X Y:Nat→α)(w V:World)(ih:OM val lt c g o cap N (b-a))(h1:a<mid)(h2:mid≤e)(h3:e≤b)(h4:b≤N)(hR:RowS val g o N Y V)(hb:ButOne g w V)(hx:Stb lt X Y a b)
  (s1:Srt lt Y a mid) (s2:Srt lt Y mid e) (s3:Srt lt Y e b) (hc:Crs lt Y a mid b) (e5 e6 e7 e8 e9 ea eb ec ed ee ef eg eh ei ej ek el em en eo ep eq er es et eu ev ew ex ey ez eA eB eC eD eE eF eG eH eI eJ eK eL eM eN eO eP eQ eR eS eT eU eV eW eX eY eZ aa ab ac ae af ag ah ai aj ak al am an ao ap aq ar au av aw ax ay az aA aB aC aD aE aF aG aH aI aJ aK aL aM aN aO aP aQ aR aS aT aU aV aW aX aY aZ ba bb bc bd be bf bg bh bi bj bk bl bm bn bo bp bq br bs bt bu bv bw bx bz bA bB bC bD bE bF bG bH bI bJ bK bL bM bN bO bP bQ bR bS bT bU bV bW bY bZ ca cb cc cd ce cf cg ch ci cj ck cm cn co cp cq cr cs ct cu cv cw cx cy cz cA cB cC cD cE cF cG cH cI cJ cK cL cM cN cO cP cQ cR cS cT cU cV cW cX cY cZ da db dc dd de:Value):Code.wp Tryd.prog Kd (bodyPost Tryd.prog Tryd.f57 (IT val lt g o N X a b w)) { tmps:=#[.slice (some ⟨g,o,none⟩) N cap,int i64 (a:Nat),int i64 (m:Nat),int i64 (b:Nat),.func (.func c) #[] #[],e5,e6,e7,e8,e9,ea,eb,ec,ed,ee,ef,eg,eh,int i64 (mid:Nat),ei,int i64 (s:Nat),ej,ek,el,int i64 (e:Nat),em,en,eo,ep,eq,er,es,et,eu,ev,ew,ex,ey,ez,eA,eB,eC,eD,eE,eF,eG,eH,eI,eJ,eK,eL,eM,eN,eO,eP,eQ,eR,eS,eT,eU,eV,eW,eX,eY,eZ,aa,ab,ac,ae,af,ag,ah,ai,aj,ak,al,am,an,ao,ap,aq,ar,au,av,aw,ax,ay,az,aA,aB,aC,aD,aE,aF,aG,aH,aI,aJ,aK,aL,aM,aN,aO,aP,aQ,aR,aS,aT,aU,aV,aW,aX,aY,aZ,ba,bb,bc,bd,be,bf,bg,bh,bi,bj,bk,bl,bm,bn,bo,bp,bq,br,bs,bt,bu,bv,bw,bx,bz,bA,bB,bC,bD,bE,bF,bG,bH,bI,bJ,bK,bL,bM,bN,bO,bP,bQ,bR,bS,bT,bU,bV,bW,bY,bZ,ca,cb,cc,cd,ce,cf,cg,ch,ci,cj,ck,cm,cn,co,cp,cq,cr,cs,ct,cu,cv,cw,cx,cy,cz,cA,cB,cC,cD,cE,cF,cG,cH,cI,cJ,cK,cL,cM,cN,cO,cP,cQ,cR,cS,cT,cU,cV,cW,cX,cY,cZ,da,db,dc,dd,de],defers:=[] } V:=by
 have IH:=qh ih;have HR:=qh hR;have HB:=qh hb;have HX:=qh hx;have S1:=qh s1;have S2:=qh (And.intro s2 s3);have HC:=qh hc;have HS:=qh hS;have HW:=qh (show (mid=e∨e=b)→Srt lt Y a b from λh=>Srt.join s1 (by rcases h with h|h<;>subst h<;>assumption) hc);clear ih hR hb hx s1 s2 s3 hc hS;unfold Kd FP
 conv=>arg 2;whnf
 by_cases q1:mid<e
 ·by_cases q2:e<b
  ·have k1:(mid:Int)<(e:Int):=by omega
   have k2:(e:Int)<(b:Int):=by omega
   go_wp2_with (go_at_call 57;refine (IH.out mid e b (by omega) (by omega) (by omega) (by omega) _ _ HR.out S2.out).mono ?_;rintro e2 V2 ⟨rfl,Z,hA,hB,hC,hD⟩;have HZ:=qh (And.intro hA (And.intro hB (And.intro hC hD)));clear hA hB hC hD);go_end0;have hj:=NK HS.out ⟨Nat.le_of_lt h1,by omega⟩ HC.out (Stb.refl _ _ _ _) S1.out HZ.out.2.2.1 HZ.out.2.2.2;exact ⟨rfl,Z,HZ.out.1,HB.out.trans HZ.out.2.1,HX.out.trans hj.1,hj.2⟩
  ·have k1:(mid:Int)<(e:Int):=by omega
   have k2:¬(e:Int)<(b:Int):=by omega
   go_wp2_with fail;go_end0;exact ⟨rfl,Y,HR.out,HB.out,HX.out,HW.out (Or.inr (by omega))⟩
 ·have k1:¬(mid:Int)<(e:Int):=by omega
  go_wp2_with fail;go_end0;exact ⟨rfl,Y,HR.out,HB.out,HX.out,HW.out (Or.inl (by omega))⟩
theorem VL(val:α→Sgn)(lt:α→α→Bool)(c:Nat)(hS:SwO lt)(g o cap N a m b mid s e:Nat)(X Y:Nat→α)(w V:World)(ih:OM val lt c g o cap N (b-a))(h0:a≤s∧s≤mid)(h1:a<mid)(h2:mid≤e)(h3:e≤b)(h4:b≤N)(hF:mid<b)(hR:RowS val g o N Y V)(hb:ButOne g w V)(hx:Stb lt X Y a b)
  (r1:Srt lt Y a s) (r2:Srt lt Y s mid) (s2:Srt lt Y mid e) (s3:Srt lt Y e b) (hc:Crs lt Y a mid b) (e5 e6 e7 e8 e9 ea eb ec ed ee ef eg eh ei ej ek el em en eo ep eq er es et eu ev ew ex ey ez eA eB eC eD eE eF eG eH eI eJ eK eL eM eN eO eP eQ eR eS eT eU eV eW eX eY eZ aa ab ac ae af ag ah ai aj ak al am an ao ap aq ar au av aw ax ay az aA aB aC aD aE aF aG aH aI aJ aK aL aM aN aO aP aQ aR aS aT aU aV aW aX aY aZ ba bb bc bd be bf bg bh bi bj bk bl bm bn bo bp bq br bs bt bu bv bw bx bz bA bB bC bD bE bF bG bH bI bJ bK bL bM bN bO bP bQ bR bS bT bU bV bW bY bZ ca cb cc cd ce cf cg ch ci cj ck cm cn co cp cq cr cs ct cu cv cw cx cy cz cA cB cC cD cE cF cG cH cI cJ cK cL cM cN cO cP cQ cR cS cT cU cV cW cX cY cZ da db dc dd de:Value):Code.wp Tryd.prog Kc (bodyPost Tryd.prog Tryd.f57 (IT val lt g o N X a b w)) { tmps:=#[.slice (some ⟨g,o,none⟩) N cap,int i64 (a:Nat),int i64 (m:Nat),int i64 (b:Nat),.func (.func c) #[] #[],e5,e6,e7,e8,e9,ea,eb,ec,ed,ee,ef,eg,eh,int i64 (mid:Nat),ei,int i64 (s:Nat),ej,ek,el,int i64 (e:Nat),em,en,eo,ep,eq,er,es,et,eu,ev,ew,ex,ey,ez,eA,eB,eC,eD,eE,eF,eG,eH,eI,eJ,eK,eL,eM,eN,eO,eP,eQ,eR,eS,eT,eU,eV,eW,eX,eY,eZ,aa,ab,ac,ae,af,ag,ah,ai,aj,ak,al,am,an,ao,ap,aq,ar,au,av,aw,ax,ay,az,aA,aB,aC,aD,aE,aF,aG,aH,aI,aJ,aK,aL,aM,aN,aO,aP,aQ,aR,aS,aT,aU,aV,aW,aX,aY,aZ,ba,bb,bc,bd,be,bf,bg,bh,bi,bj,bk,bl,bm,bn,bo,bp,bq,br,bs,bt,bu,bv,bw,bx,bz,bA,bB,bC,bD,bE,bF,bG,bH,bI,bJ,bK,bL,bM,bN,bO,bP,bQ,bR,bS,bT,bU,bV,bW,bY,bZ,ca,cb,cc,cd,ce,cf,cg,ch,ci,cj,ck,cm,cn,co,cp,cq,cr,cs,ct,cu,cv,cw,cx,cy,cz,cA,cB,cC,cD,cE,cF,cG,cH,cI,cJ,cK,cL,cM,cN,cO,cP,cQ,cR,cS,cT,cU,cV,cW,cX,cY,cZ,da,db,dc,dd,de],defers:=[] } V:=by
 obtain ⟨hG,hH⟩:=h0;have HN:=qh (λ(Y:Nat→α) (V:World) (hR:RowS val g o N Y V) (hb:ButOne g w V) (hx:Stb lt X Y a b) (s1:Srt lt Y a mid) (s2:Srt lt Y mid e) (s3:Srt lt Y e b) (hc:Crs lt Y a mid b)=>VM val lt c hS g o cap N a m b mid s e X Y w V ih h1 h2 h3 h4 hR hb hx s1 s2 s3 hc);have IH:=qh ih;have HR:=qh hR;have HB:=qh hb;have HX:=qh hx;have S1:=qh (And.intro r1 r2);have S2:=qh (And.intro s2 s3);have HC:=qh hc;have HS:=qh hS;have HW:=qh (show (a=s∨s=mid)→Srt lt Y a mid from λh=>by rcases h with h|h<;>subst h<;>assumption);clear ih hR hb hx r1 r2 s2 s3 hc hS;unfold Kc FP
 conv=>arg 2;whnf
 change Code.wp Tryd.prog (.seq _ Kd) _ _ _;by_cases q1:a<s
 ·by_cases q2:s<mid
  ·have k1:(a:Int)<(s:Int):=by omega
   have k2:(s:Int)<(mid:Int):=by omega
   go_wp2_with (go_at_call 57;refine (IH.out a s mid (by omega) (by omega) (by omega) (by omega) _ _ HR.out S1.out).mono ?_;rintro e2 V2 ⟨rfl,Z,hB,hC,hD,hE⟩;have HZ:=qh (And.intro hB (And.intro hC (And.intro hD hE)));clear hB hC hD hE);exact HN.out Z _ HZ.out.1 (HB.out.trans HZ.out.2.1) (HX.out.trans (HZ.out.2.2.1.wide (qn _) (by omega) (by omega))) HZ.out.2.2.2 (S2.out.1.congr λi i1 _=>HZ.out.2.2.1.out i (Or.inr i1)) (S2.out.2.congr λi i1 _=>HZ.out.2.2.1.out i (Or.inr (by omega))) (HC.out.stb HS.out HZ.out.2.2.1) _ _ _ _ _ _ _ _ _ _ _ _ _ _ _ _ _ _ _ _ _ _ _ _ _ _ _ _ _ _ _ _ _ _ _ _ _ _ _ _ _ _ _ _ _ _ _ _ _ _ _ _ _ _ _ _ _ _ _ _ _ _ _ _ _ _ _ _ _ _ _ _ _ _ _ _ _ _ _ _ _ _ _ _ _ _ _ _ _ _ _ _ _ _ _ _ _ _ _ _ _ _ _ _ _ _ _ _ _ _ _ _ _ _ _ _ _ _ _ _ _ _ _ _ _ _ _ _ _ _ _ _ _ _ _ _ _ _ _ _ _ _ _ _ _ _ _ _ _ _ _ _ _ _ _ _ _ _ _ _ _ _ _ _ _ _ _ _ _ _ _ _ _ _ _ _ _ _ _ _ _ _ _ _ _ _ _ _ _ _ _ _ _ _ _ _ _ _ _ _ _ _ _ _ _ _ _ _ _ _ _ _
  ·have k1:(a:Int)<(s:Int):=by omega
   have k2:¬(s:Int)<(mid:Int):=by omega
   have hA:=qh (HW.out (Or.inr (by omega)));go_wp2_with fail;exact HN.out Y _ HR.out HB.out HX.out hA.out S2.out.1 S2.out.2 HC.out _ _ _ _ _ _ _ _ _ _ _ _ _ _ _ _ _ _ _ _ _ _ _ _ _ _ _ _ _ _ _ _ _ _ _ _ _ _ _ _ _ _ _ _ _ _ _ _ _ _ _ _ _ _ _ _ _ _ _ _ _ _ _ _ _ _ _ _ _ _ _ _ _ _ _ _ _ _ _ _ _ _ _ _ _ _ _ _ _ _ _ _ _ _ _ _ _ _ _ _ _ _ _ _ _ _ _ _ _ _ _ _ _ _ _ _ _ _ _ _ _ _ _ _ _ _ _ _ _ _ _ _ _ _ _ _ _ _ _ _ _ _ _ _ _ _ _ _ _ _ _ _ _ _ _ _ _ _ _ _ _ _ _ _ _ _ _ _ _ _ _ _ _ _ _ _ _ _ _ _ _ _ _ _ _ _ _ _ _ _ _ _ _ _ _ _ _ _ _ _ _ _ _ _ _ _ _ _ _ _ _ _
 ·have k1:¬(a:Int)<(s:Int):=by omega
  have hA:=qh (HW.out (Or.inl (by omega)));go_wp2_with fail;exact HN.out Y _ HR.out HB.out HX.out hA.out S2.out.1 S2.out.2 HC.out _ _ _ _ _ _ _ _ _ _ _ _ _ _ _ _ _ _ _ _ _ _ _ _ _ _ _ _ _ _ _ _ _ _ _ _ _ _ _ _ _ _ _ _ _ _ _ _ _ _ _ _ _ _ _ _ _ _ _ _ _ _ _ _ _ _ _ _ _ _ _ _ _ _ _ _ _ _ _ _ _ _ _ _ _ _ _ _ _ _ _ _ _ _ _ _ _ _ _ _ _ _ _ _ _ _ _ _ _ _ _ _ _ _ _ _ _ _ _ _ _ _ _ _ _ _ _ _ _ _ _ _ _ _ _ _ _ _ _ _ _ _ _ _ _ _ _ _ _ _ _ _ _ _ _ _ _ _ _ _ _ _ _ _ _ _ _ _ _ _ _ _ _ _ _ _ _ _ _ _ _ _ _ _ _ _ _ _ _ _ _ _ _ _ _ _ _ _ _ _ _ _ _ _ _ _ _ _ _ _ _ _
theorem VN(val:α→Sgn)(lt:α→α→Bool)(c:Nat)(hc:CmpOk val lt c)(g o cap N a m b mid n p lo hi:Nat)(X:Nat→α)(w V:World)(ih:OM val lt c g o cap N (b-a))(h1:a<m)(h2:m<b)(h3:b≤N)(hN:N≤1000000)(hm:mid=(a+b) / 2)(hn:n=mid+m)(hp:p+1=n)
  (hq:(mid<m∧lo=n-b∧hi=mid)∨(m≤mid∧lo=a∧hi=m)) (hR:RowS val g o N X V) (hb:ButOne g w V) (s1:Srt lt X a m) (s2:Srt lt X m b) (e5 e6 e7 e8 e9 ea eb ec ed ee ef eg eh ei ej ek el em en eo ep eq er es et eu ev ew ex ey ez eA eB eC eD eE eF eG eH eI eJ eK eL eM eN eO eP eQ eR eS eT eU eV eW eX eY eZ aa ab ac ae af ag ah ai aj ak al am an ao ap aq ar au av aw ax ay az aA aB aC aD aE aF aG aH aI aJ aK aL aM aN aO aP aQ aR aS aT aU aV aW aX aY aZ ba bb bc bd be bf bg bh bi bj bk bl bm bn bo bp bq br bs bt bu bv bw bx bz bA bB bC bD bE bF bG bH bI bJ bK bL bM bN bO bP bQ bR bS bT bU bV bW bY bZ ca cb cc cd ce cf cg ch ci cj ck cm cn co cp cq cr cs ct cu cv cw cx cy cz cA cB cC cD cE cF cG cH cI cJ cK cL cM cN cO cP cQ cR cS cT cU cV cW cX cY cZ da db dc:Value):Code.wp Tryd.prog GS (bodyPost Tryd.prog Tryd.f57 (IT val lt g o N X a b w)) { tmps:=#[.slice (some ⟨g,o,none⟩) N cap,int i64 (a:Nat),int i64 (m:Nat),int i64 (b:Nat),.func (.func c) #[] #[],e5,e6,e7,e8,e9,ea,eb,ec,ed,ee,ef,eg,eh,int i64 (mid:Nat),int i64 (n:Nat),int i64 (lo:Nat),int i64 (hi:Nat),int i64 (p:Nat),ei,ej,ek,el,em,en,eo,ep,eq,er,es,et,eu,ev,ew,ex,ey,ez,eA,eB,eC,eD,eE,eF,eG,eH,eI,eJ,eK,eL,eM,eN,eO,eP,eQ,eR,eS,eT,eU,eV,eW,eX,eY,eZ,aa,ab,ac,ae,af,ag,ah,ai,aj,ak,al,am,an,ao,ap,aq,ar,au,av,aw,ax,ay,az,aA,aB,aC,aD,aE,aF,aG,aH,aI,aJ,aK,aL,aM,aN,aO,aP,aQ,aR,aS,aT,aU,aV,aW,aX,aY,aZ,ba,bb,bc,bd,be,bf,bg,bh,bi,bj,bk,bl,bm,bn,bo,bp,bq,br,bs,bt,bu,bv,bw,bx,bz,bA,bB,bC,bD,bE,bF,bG,bH,bI,bJ,bK,bL,bM,bN,bO,bP,bQ,bR,bS,bT,bU,bV,bW,bY,bZ,ca,cb,cc,cd,ce,cf,cg,ch,ci,cj,ck,cm,cn,co,cp,cq,cr,cs,ct,cu,cv,cw,cx,cy,cz,cA,cB,cC,cD,cE,cF,cG,cH,cI,cJ,cK,cL,cM,cN,cO,cP,cQ,cR,cS,cT,cU,cV,cW,cX,cY,cZ,da,db,dc],defers:=[] } V:=by
 have hE:=hc.enter;have hH:=qh (show ∀s,SrchOk lt X lo hi n s s→CutOk lt X a s m (n-s) b∧s+(n-s-m)=mid from λs h=>by rw [hm];exact h.cut hc.swo s1 s2 ⟨h1,h2⟩ (by omega) (hq.imp (λx=>⟨by omega,x.2.1,by omega⟩) (λx=>⟨by omega,x.2.1,x.2.2⟩)));have hD:=qh (show ∀c,lo≤c→c<hi→m≤n-1-c∧n-1-c<b by intro c c1 c2;rcases hq with ⟨x1,x2,x3⟩|⟨x1,x2,x3⟩<;>omega);have hI:=qh (show a≤lo∧hi≤m by rcases hq with ⟨x1,x2,x3⟩|⟨x1,x2,x3⟩<;>omega);have hO:lo≤hi:=by rcases hq with ⟨x1,x2,x3⟩|⟨x1,x2,x3⟩<;>omega
 have hg:hi≤m:=hI.out.2;have hC:a<mid∧mid<b:=by omega
 have hJ:=qh (λ(s e:Nat) (Y:Nat→α) (V:World) h0 h2 h3 (hR:RowS val g o N Y V) (hb:ButOne g w V) hx r1 r2 s2 s3 hX=>VL val lt c hc.swo g o cap N a m b mid s e X Y w V ih h0 hC.1 h2 h3 (by omega) hC.2 hR hb hx r1 r2 s2 s3 hX);have hK:=qh (λ(s e:Nat) V (p1:s<m) (p2:m<e) (p3:e≤b) (hR:RowS val g o N X V)=>Sd val g o cap N s m e X c V p1 p2 (by omega) hN hR);have HC:=qh hc;have HR:=qh hR;have HB:=qh hb;have S1:=qh (And.intro s1 s2);have hj:=qh hn;have HP:=qh hp;have ho:p<2*N:=by omega
 have hs:n≤p+1:=by omega
 have ht:p+1≤n:=by omega
 have hu:n<2*N:=by omega
 have hw:m≤n:=by omega
 clear hc hR hb s1 s2 ih hq hm hn hp hC;unfold GS FP
 conv=>arg 2;whnf
 change Code.wp Tryd.prog (.seq _ (.seq _ (.seq _ Kc))) _ _ _;go_wp2_with fail;go_loopw [20,21] (λiv jv wr=>∃s r:Nat,iv=int i64 s∧jv=int i64 r∧lo≤s∧s≤r∧r≤hi∧Hid (SrchOk lt X lo hi n s r)∧Hid (RowS val g o N X wr)∧Hid (ButOne g w wr)) (λiv jv _=>(intOf jv-intOf iv).toNat)
 case atStart=>exact ⟨lo,hi,rfl,rfl,qn _,hO,qn _,qh ⟨⟨qn _,hO,qn _⟩,λq q1 q2=>by omega,λq q1 q2=>by omega⟩,HR,HB⟩
 case round =>
  obtain ⟨i,j,rfl,rfl,hY,hy,hZ,hS,hr,hb⟩:=hrel;by_cases hz:i<j
  ·have hl:(i:Int)<(j:Int):=by omega
   obtain ⟨h,hh⟩:∃h:Nat,h=(i+j) / 2:=⟨_,rfl⟩;have hC:((i:Int)+(j:Int)) / 2=(h:Int):=by omega
   have q0:i≤h:=by omega
   have q1:h<j:=by omega
   have ha:=hD.out h (by omega) (by omega);obtain ⟨q,hq⟩:∃q:Nat,n-1-h=q:=⟨_,rfl⟩;have wq:IntKind.i64.wrap ((p:Int)-(h:Int))=(q:Int):=(IntWalk.i64_in _ (by omega)).trans (by omega);have q2:(h:Int)<(N:Int):=by omega
   have q3:(q:Int)<(N:Int):=by omega
   have q4:q<N:=by omega
   have HQ:=qh hq;clear hh hq ha;have HA:=qh (hr.out.block (w':=wr.drew) rfl).at_;have HD:=qh (And.intro (hr.out.block (w':=wr.drew) rfl) (hb.out.trans (ButOne.of_below (Below.refl _ wr).drew)));go_wp2_with fail;refine AU (λw2=>w2=wr.drew) 11 (by kernel_rfl) (by kernel_rfl) rfl ?_;intro w2 hS;subst hS;simp only [List.take_succ_cons,List.take_zero,List.drop_succ_cons,List.drop_zero]
   iterate 6 still_step
   refine AP (by kernel_rfl) 43 _ rfl g (o+q*14) rfl _ _ (HA.out q (by omega)) Tryd.underlying43 rfl (by kernel_rfl) ?_
   try simp only [Act.put,qA,qB,qC,qD,qE,qF]
   iterate 3 still_step
   refine AP (by kernel_rfl) 43 _ rfl g (o+h*14) rfl _ _ (HA.out h (by omega)) Tryd.underlying43 rfl (by kernel_rfl) ?_
   try simp only [Act.put,qA,qB,qC,qD,qE,qF]
   refine wpStill_nil ?_;go_wp2_with fail;refine (HC.out.calls _ _ _).mono ?_;rintro e wr3 ⟨kk,rfl,hG,hL⟩;have hP:=qh (HD.out.1.below hL);have hQ:=qh (HD.out.2.trans (ButOne.of_below hL));clear hL HA HD;have hT:=qh (λhv=>hS.out.up HC.out.swo S1.out.1 S1.out.2 q0 q1 hI.out hD.out hv);have hU:=qh (λhv=>hS.out.dn HC.out.swo S1.out.1 S1.out.2 q0 q1 hI.out hD.out hv);rw [HQ.out] at hT hU
   cases hv:lt (X q) (X h) with
   | true =>
    have hk:kk<0:=hG.2 hv;have HV:=qh (hU.out hv);clear hG hv;go_wp2_with fail;go_roundw
    case rel=>exact ⟨i,h,rfl,rfl,hY,q0,by omega,HV,hP,hQ⟩
    case measure=>simp [intOf];omega
   | false =>
    have hk:¬kk<0:=λh=>by rw [hG.1 h] at hv;cases hv
    have h4:decide (kk<0)=false:=by simpa using hk
    have HV:=qh (hT.out hv);clear hG hv hk;go_wp2_with fail;go_roundw
    case rel=>exact ⟨h+1,j,by go_num,rfl,by omega,by omega,hZ,HV,hP,hQ⟩
    case measure=>simp [intOf];omega
  ·have hl:¬(i:Int)<(j:Int):=by omega
   obtain rfl:i=j:=by omega
   obtain ⟨hA,hM⟩:=hH.out i hS.out;obtain ⟨e,he⟩:∃e:Nat,n-i=e:=⟨_,rfl⟩;have we:IntKind.i64.wrap ((n:Int)-(i:Int))=(e:Int):=(IntWalk.i64_in _ (by omega)).trans (by omega);rw [he] at hA hM;obtain ⟨o1,o2,o3,o4⟩:=hA.ord;have hF:=qh (hA.stb HC.out.swo)
   have hB:=qh (show Srt lt (rot X i m e) a i∧Srt lt (rot X i m e) i mid∧Srt lt (rot X i m e) mid e∧Srt lt (rot X i m e) e b∧Crs lt (rot X i m e) a mid b by
    have x2:=hA.s2;have x3:=hA.s3;have x4:=hA.half HC.out.swo;rw [hM] at x2 x3 x4
    exact ⟨hA.s1,x2,x3,hA.s4,x4⟩)
   have HO:=qh (show (a≤i∧i≤mid)∧mid≤e∧e≤b by omega);clear hA hM he;by_cases q1:i<m
   ·by_cases q2:m<e
    ·have k1:(i:Int)<(m:Int):=by omega
     have k2:(m:Int)<(e:Int):=by omega
     go_wp2_with (go_at_call 69;refine (hK.out i e _ (by omega) (by omega) (by omega) hr.out).mono ?_;rintro e2 V2 ⟨rfl,hV,hW⟩;have hd:=qh hV;have hf:=qh hW;clear hV hW);exact hJ.out i e _ _ HO.out.1 HO.out.2.1 HO.out.2.2 hd.out (hb.out.trans hf.out) hF.out hB.out.1 hB.out.2.1 hB.out.2.2.1 hB.out.2.2.2.1 hB.out.2.2.2.2 _ _ _ _ _ _ _ _ _ _ _ _ _ _ _ _ _ _ _ _ _ _ _ _ _ _ _ _ _ _ _ _ _ _ _ _ _ _ _ _ _ _ _ _ _ _ _ _ _ _ _ _ _ _ _ _ _ _ _ _ _ _ _ _ _ _ _ _ _ _ _ _ _ _ _ _ _ _ _ _ _ _ _ _ _ _ _ _ _ _ _ _ _ _ _ _ _ _ _ _ _ _ _ _ _ _ _ _ _ _ _ _ _ _ _ _ _ _ _ _ _ _ _ _ _ _ _ _ _ _ _ _ _ _ _ _ _ _ _ _ _ _ _ _ _ _ _ _ _ _ _ _ _ _ _ _ _ _ _ _ _ _ _ _ _ _ _ _ _ _ _ _ _ _ _ _ _ _ _ _ _ _ _ _ _ _ _ _ _ _ _ _ _ _ _ _ _ _ _ _ _ _ _ _ _ _ _ _ _ _ _ _
    ·have k1:(i:Int)<(m:Int):=by omega
     have k2:¬(m:Int)<(e:Int):=by omega
     have HE:=qh (show rot X i m e=X by rw [show e=m by omega];exact Lb X i m (by omega));rw [HE.out] at hF hB;go_wp2_with fail;exact hJ.out i e _ _ HO.out.1 HO.out.2.1 HO.out.2.2 hr.out hb.out hF.out hB.out.1 hB.out.2.1 hB.out.2.2.1 hB.out.2.2.2.1 hB.out.2.2.2.2 _ _ _ _ _ _ _ _ _ _ _ _ _ _ _ _ _ _ _ _ _ _ _ _ _ _ _ _ _ _ _ _ _ _ _ _ _ _ _ _ _ _ _ _ _ _ _ _ _ _ _ _ _ _ _ _ _ _ _ _ _ _ _ _ _ _ _ _ _ _ _ _ _ _ _ _ _ _ _ _ _ _ _ _ _ _ _ _ _ _ _ _ _ _ _ _ _ _ _ _ _ _ _ _ _ _ _ _ _ _ _ _ _ _ _ _ _ _ _ _ _ _ _ _ _ _ _ _ _ _ _ _ _ _ _ _ _ _ _ _ _ _ _ _ _ _ _ _ _ _ _ _ _ _ _ _ _ _ _ _ _ _ _ _ _ _ _ _ _ _ _ _ _ _ _ _ _ _ _ _ _ _ _ _ _ _ _ _ _ _ _ _ _ _ _ _ _ _ _ _ _ _ _ _ _ _ _ _ _ _ _ _
   ·have k1:¬(i:Int)<(m:Int):=by omega
    have HE:=qh (show rot X i m e=X by rw [show i=m by omega];exact Jq X m e (by omega));rw [HE.out] at hF hB;go_wp2_with fail;exact hJ.out i e _ _ HO.out.1 HO.out.2.1 HO.out.2.2 hr.out hb.out hF.out hB.out.1 hB.out.2.1 hB.out.2.2.1 hB.out.2.2.2.1 hB.out.2.2.2.2 _ _ _ _ _ _ _ _ _ _ _ _ _ _ _ _ _ _ _ _ _ _ _ _ _ _ _ _ _ _ _ _ _ _ _ _ _ _ _ _ _ _ _ _ _ _ _ _ _ _ _ _ _ _ _ _ _ _ _ _ _ _ _ _ _ _ _ _ _ _ _ _ _ _ _ _ _ _ _ _ _ _ _ _ _ _ _ _ _ _ _ _ _ _ _ _ _ _ _ _ _ _ _ _ _ _ _ _ _ _ _ _ _ _ _ _ _ _ _ _ _ _ _ _ _ _ _ _ _ _ _ _ _ _ _ _ _ _ _ _ _ _ _ _ _ _ _ _ _ _ _ _ _ _ _ _ _ _ _ _ _ _ _ _ _ _ _ _ _ _ _ _ _ _ _ _ _ _ _ _ _ _ _ _ _ _ _ _ _ _ _ _ _ _ _ _ _ _ _ _ _ _ _ _ _ _ _ _ _ _ _ _
theorem Sg(val:α→Sgn)(lt:α→α→Bool)(c:Nat)(hc:CmpOk val lt c)(g o cap N a m b:Nat)(X:Nat→α)(w:World)(ih:OM val lt c g o cap N (b-a))(h1:a+1<m)(h2:m+1<b)(h3:b≤N)(hN:N≤1000000)(hR:RowS val g o N X w)(s1:Srt lt X a m)(s2:Srt lt X m b) :
  Calls Tryd.prog 57 #[.slice (some ⟨g,o,none⟩) N cap,int i64 a,int i64 m,int i64 b,.func (.func c) #[] #[]] w (IT val lt g o N X a b w):=by
 obtain ⟨mid,hA⟩:∃mid,mid=(a+b) / 2:=⟨_,rfl⟩;obtain ⟨n,hn⟩:∃n,n=mid+m:=⟨_,rfl⟩;obtain ⟨p,hp⟩:∃p,p+1=n:=⟨n-1,by omega⟩;have HL:=qh (λlo hi hq=>VN val lt c hc g o cap N a m b mid n p lo hi X w w ih (by omega) (by omega) h3 hN hA hn hp hq hR (ButOne.refl _ _) s1 s2);clear hc ih hR s1 s2;have w1:IntKind.i64.wrap ((m:Int)-(a:Int))=((m-a:Nat):Int):=(IntWalk.i64_in _ (by omega)).trans (by omega);have w2:IntKind.i64.wrap ((b:Int)-(m:Int))=((b-m:Nat):Int):=(IntWalk.i64_in _ (by omega)).trans (by omega);have w3:¬((m-a:Nat):Int)=1:=by omega
 have w4:(((m-a:Nat):Int)==1)=false:=by simpa using w3
 have w5:¬((b-m:Nat):Int)=1:=by omega
 have w6:(((b-m:Nat):Int)==1)=false:=by simpa using w5
 have w7:((a:Int)+(b:Int)) / 2=(mid:Int):=by omega
 have w8:IntKind.i64.wrap ((mid:Int)+(m:Int))=(n:Int):=(IntWalk.i64_in _ (by omega)).trans (by omega);have w9:IntKind.i64.wrap ((n:Int)-1)=(p:Int):=(IntWalk.i64_in _ (by omega)).trans (by omega);have z1:a<N:=by omega
 have z2:m<N:=by omega
 by_cases q1:mid<m
 ·have k1:(mid:Int)<(m:Int):=by omega
  obtain ⟨lo,hB⟩:∃lo:Nat,lo=n-b:=⟨_,rfl⟩;have wl:IntKind.i64.wrap ((n:Int)-(b:Int))=(lo:Int):=(IntWalk.i64_in _ (by omega)).trans (by omega);have HX:=qh (HL.out lo mid (Or.inl ⟨q1,hB,rfl⟩));generalize m-a=ma at *;generalize b-m=bm at *;clear HL hA hn hp hB h1 h2;go_enter Tryd.func57,Tryd.ntmps57;change Code.wp Tryd.prog (.seq _ (.seq _ (.seq _ (.seq _ (.seq _ (.seq _ (.seq _ GS))))))) _ _ _;go_wp2_with fail;exact HX.out _ _ _ _ _ _ _ _ _ _ _ _ _ _ _ _ _ _ _ _ _ _ _ _ _ _ _ _ _ _ _ _ _ _ _ _ _ _ _ _ _ _ _ _ _ _ _ _ _ _ _ _ _ _ _ _ _ _ _ _ _ _ _ _ _ _ _ _ _ _ _ _ _ _ _ _ _ _ _ _ _ _ _ _ _ _ _ _ _ _ _ _ _ _ _ _ _ _ _ _ _ _ _ _ _ _ _ _ _ _ _ _ _ _ _ _ _ _ _ _ _ _ _ _ _ _ _ _ _ _ _ _ _ _ _ _ _ _ _ _ _ _ _ _ _ _ _ _ _ _ _ _ _ _ _ _ _ _ _ _ _ _ _ _ _ _ _ _ _ _ _ _ _ _ _ _ _ _ _ _ _ _ _ _ _ _ _ _ _ _ _ _ _ _ _ _ _ _ _ _ _ _ _ _ _ _ _ _ _ _
 ·have k1:¬(mid:Int)<(m:Int):=by omega
  have HX:=qh (HL.out a m (Or.inr ⟨by omega,rfl,rfl⟩));generalize m-a=ma at *;generalize b-m=bm at *;clear HL hA hn hp h1 h2;go_enter Tryd.func57,Tryd.ntmps57;change Code.wp Tryd.prog (.seq _ (.seq _ (.seq _ (.seq _ (.seq _ (.seq _ (.seq _ GS))))))) _ _ _;go_wp2_with fail;exact HX.out _ _ _ _ _ _ _ _ _ _ _ _ _ _ _ _ _ _ _ _ _ _ _ _ _ _ _ _ _ _ _ _ _ _ _ _ _ _ _ _ _ _ _ _ _ _ _ _ _ _ _ _ _ _ _ _ _ _ _ _ _ _ _ _ _ _ _ _ _ _ _ _ _ _ _ _ _ _ _ _ _ _ _ _ _ _ _ _ _ _ _ _ _ _ _ _ _ _ _ _ _ _ _ _ _ _ _ _ _ _ _ _ _ _ _ _ _ _ _ _ _ _ _ _ _ _ _ _ _ _ _ _ _ _ _ _ _ _ _ _ _ _ _ _ _ _ _ _ _ _ _ _ _ _ _ _ _ _ _ _ _ _ _ _ _ _ _ _ _ _ _ _ _ _ _ _ _ _ _ _ _ _ _ _ _ _ _ _ _ _ _ _ _ _ _ _ _ _ _ _ _ _ _ _ _ _ _ _ _ _
theorem Ua(val:α→Sgn)(lt:α→α→Bool)(c:Nat)(hc:CmpOk val lt c)(g o cap N:Nat)(hN:N≤1000000):∀z,OM val lt c g o cap N z:=by
 intro z
 induction z with
 | zero=>intro a m b hz;omega
 | succ z ih =>
  intro a m b hz h1 h2 h3 Y V hR hs;by_cases q1:m=a+1
  ·exact Ub val lt c hc g o cap N a m b Y V q1 h2 h3 hN hR hs.2
  ·by_cases q2:b=m+1
   ·exact Uc val lt c hc g o cap N a m b Y V (by omega) q2 h3 hN hR hs.1
   ·exact Sg val lt c hc g o cap N a m b Y V (λa' m' b' hA=>ih a' m' b' (by omega)) (by omega) (by omega) h3 hN hR hs.1 hs.2
end
end
section
open Go Go.RowKit Go.Deep
section
variable {α:Type}
def Bls(lt:α→α→Bool)(Y:Nat→α)(s n:Nat):Prop:=∀k p q,k*s≤p→p≤q→q<(k+1)*s→q<n→lt (Y q) (Y p)=false
theorem T4{s k k0 q:Nat}(h:q<(k+1)*s)(h0:k0*s≤q):k0≤k:=by
 rcases Nat.lt_or_ge k k0 with h1|h1
 ·have:=Nat.mul_le_mul_right s (show k+1≤k0 from h1);omega
 ·exact h1
theorem Bls.step{lt:α→α→Bool}{Y Z:Nat→α}{s a e k0:Nat}(h:Bls lt Y s a)(ha:a=k0*s)(k:Stb lt Y Z a e)(j:Srt lt Z a e):Bls lt Z s e:=by
 intro i p q h1 h2 h3 h4;by_cases hq:q<a
 ·rw [k.out q (Or.inl hq),k.out p (Or.inl (by omega))]
  exact h i p q h1 h2 h3 hq
 ·have hk:=T4 (k0:=k0) h3 (by omega)
  have:=Nat.mul_le_mul_right s hk;exact j p q (by omega) h2 h4
def Mix(lt:α→α→Bool)(Y:Nat→α)(s a n:Nat):Prop:=Bls lt Y (2*s) a∧∀k p q,k*s≤p→p≤q→q<(k+1)*s→q<n→a≤p→lt (Y q) (Y p)=false
theorem Mix.start{lt:α→α→Bool}{Y:Nat→α}{s n:Nat}(h:Bls lt Y s n):Mix lt Y s 0 n:=⟨λk p q _ _ _ h=>by omega,λk p q h1 h2 h3 h4 _=>h k p q h1 h2 h3 h4⟩
theorem Mix.step{lt:α→α→Bool}{Y Z:Nat→α}{s a e n k0:Nat}(h:Mix lt Y s a n)(ha:a=k0*(2*s))(hA:a≤e)(k:Stb lt Y Z a e)(j:Srt lt Z a e):Mix lt Z s e n:=by
 refine ⟨h.1.step ha k j,λi p q h1 h2 h3 h4 h5=>?_⟩;rw [k.out q (Or.inr (by omega)),k.out p (Or.inr h5)];exact h.2 i p q h1 h2 h3 h4 (by omega)
theorem Mix.lo{lt:α→α→Bool}{Y:Nat→α}{s a n k0:Nat}(h:Mix lt Y s a n)(ha:a=k0*(2*s)):∀e,e≤a+s→e≤n→Srt lt Y a e:=λe h1 h2 i j i1 i2 i3=>by
 have e1:(2*k0)*s=a:=by rw [ha,Nat.mul_comm 2 k0,Nat.mul_assoc]
 exact h.2 (2*k0) i j (by omega) i2 (by rw [Nat.add_mul,Nat.one_mul];omega) (by omega) i1
theorem Mix.hi{lt:α→α→Bool}{Y:Nat→α}{s a n k0:Nat}(h:Mix lt Y s a n)(ha:a=k0*(2*s)):∀e,e≤a+2*s→e≤n→Srt lt Y (a+s) e:=λe h1 h2 i j i1 i2 i3=>by
 have e1:(2*k0)*s=a:=by rw [ha,Nat.mul_comm 2 k0,Nat.mul_assoc]
 have e2:(2*k0+1)*s=a+s:=by rw [Nat.add_mul,Nat.one_mul,e1]
 have e3:(2*k0+1+1)*s=a+s+s:=by rw [Nat.add_mul (2*k0+1),Nat.one_mul,e2]
 exact h.2 (2*k0+1) i j (by omega) i2 (by omega) (by omega) (by omega)
theorem Bls.all{lt:α→α→Bool}{Y:Nat→α}{s n:Nat}(h:Bls lt Y s n)(hs:n≤s):Srt lt Y 0 n:=λi j i1 i2 i3=>h 0 i j (by omega) i2 (by omega) i3
theorem Rr(k s:Nat):(k+1)*(2*s)=k*(2*s)+2*s:=by rw [Nat.add_mul,Nat.one_mul]
theorem MI(val:α→Sgn)(lt:α→α→Bool)(c:Nat)(hc:CmpOk val lt c)(g o cap N:Nat)(X:Nat→α)(w:World)(hN:N≤1000000)(hR:RowS val g o N X w) :
  Calls Tryd.prog 36 #[.slice (some ⟨g,o,none⟩) N cap,int i64 N,.func (.func c) #[] #[]] w (IT val lt g o N X 0 N w):=by
 have HI:=qh (λ(a b:Nat) (Y:Nat→α) (V:World) (h1:a≤b) (h2:b≤N) (hV:RowS val g o N Y V)=>Rl val lt c hc g o cap N a b Y V h1 h2 hN hV);have HM:=qh (λ(a m b:Nat) (Y:Nat→α) (V:World) (h1:a<m) (h2:m<b) (h3:b≤N) (hV:RowS val g o N Y V) (hs:Srt lt Y a m∧Srt lt Y m b)=>Ua val lt c hc g o cap N hN (b-a+1) a m b (by omega) h1 h2 h3 Y V hV hs);have HR:=qh hR;clear hc hR;go_enter Tryd.func36,Tryd.ntmps36;go_wp2_with fail;go_loopw [7,8] (λav bv wr=>∃(k a:Nat) (Y:Nat→α),av=int i64 a∧bv=int i64 ((a:Int)+20)∧a≤N∧Hid (a=k*20)∧Hid (RowS val g o N Y wr)∧Hid (ButOne g w wr)∧Hid (Stb lt X Y 0 N)∧Hid (Bls lt Y 20 a)) (λav bv _=>N+1-(intOf av).toNat)
 case atStart=>exact ⟨0,0,X,rfl,by go_num,by omega,qh (by omega),HR,qh (ButOne.refl _ _),qh (Stb.refl _ _ _ _),qh (λk p q _ _ _ h=>by omega)⟩
 case round =>
  obtain ⟨k,a,Y,rfl,rfl,hF,hk,hr,hb,hx,hs⟩:=hrel;by_cases hG:a+20≤N
  ·have hl:(a:Int)+20≤(N:Int):=by omega
   go_wp2_with (go_at_call 56;refine (HI.out a (a+20) Y _ (by omega) (by omega) hr.out).mono ?_;rintro e V ⟨rfl,Z,hB,hC,hA,hD⟩;have HZ:=qh (And.intro hB (And.intro hC (And.intro hA hD)));clear hB hC hA hD);go_roundw
   case rel=>exact ⟨k+1,a+20,Z,by go_num,by go_num,by omega,qh (by have:=hk.out;omega),qh HZ.out.1,qh (hb.out.trans HZ.out.2.1),qh (hx.out.trans (HZ.out.2.2.1.wide (by omega) (by omega) (by omega))),qh (hs.out.step hk.out HZ.out.2.2.1 HZ.out.2.2.2)⟩
   case measure=>simp [intOf];omega
  ·have hl:¬(a:Int)+20≤(N:Int):=by omega
   go_wp2_with (go_at_call 56;refine (HI.out a N Y _ (by omega) (by omega) hr.out).mono ?_;rintro e V ⟨rfl,Z,hB,hC,hA,hD⟩;have HZ:=qh (And.intro hB (And.intro (hb.out.trans hC) (And.intro (hx.out.trans (hA.wide (by omega) (by omega) (by omega))) (hs.out.step hk.out hA hD))));clear hB hC hA hD);clear hl hk hr hb hx hs;go_loopw [6] (λsv wr=>∃(s:Nat) (Y:Nat→α),sv=int i64 s∧20≤s∧(s≤20∨s≤2*N)∧Hid (RowS val g o N Y wr)∧Hid (ButOne g w wr)∧Hid (Stb lt X Y 0 N)∧Hid (Bls lt Y s N)) (λsv _=>2*N+1-(intOf sv).toNat)
   case atStart=>exact ⟨20,Z,rfl,by omega,Or.inl (by omega),qh HZ.out.1,qh HZ.out.2.1,qh HZ.out.2.2.1,qh HZ.out.2.2.2⟩
   case round =>
    obtain ⟨s,Y,rfl,hJ,hK,hr,hb,hx,hs⟩:=hrel;by_cases hG:s<N
    ·have hl:(s:Int)<(N:Int):=by omega
     have w1:IntKind.i64.wrap (2*(s:Int))=2*(s:Int):=IntWalk.i64_in _ (by omega);go_wp2_with fail;go_loopw [7,8] (λav bv wr=>∃(k a:Nat) (Y:Nat→α),av=int i64 a∧bv=int i64 ((a:Int)+2*(s:Int))∧a≤N∧Hid (a=k*(2*s))∧Hid (RowS val g o N Y wr)∧Hid (ButOne g w wr)∧Hid (Stb lt X Y 0 N)∧Hid (Mix lt Y s a N)) (λav bv _=>N+1-(intOf av).toNat)
     case atStart=>exact ⟨0,0,Y,rfl,by go_num,by omega,qh (by omega),hr,hb,hx,qh (Mix.start hs.out)⟩
     case round =>
      obtain ⟨k,a,Y,rfl,rfl,hF,hk,hr,hb,hx,hs⟩:=hrel;by_cases hL:a+2*s≤N
      ·have hH:(a:Int)+2*(s:Int)≤(N:Int):=by omega
       have HP:=qh (And.intro (hs.out.lo hk.out (a+s) (by omega) (by omega)) (hs.out.hi hk.out (a+2*s) (by omega) (by omega)))
       go_wp2_with (go_at_call 57;refine (HM.out a (a+s) (a+2*s) Y _ (by omega) (by omega) (by omega) hr.out HP.out).mono ?_;rintro e V ⟨rfl,Z,hB,hC,hA,hD⟩;have hE:=qh (And.intro hB (And.intro hC (And.intro hA hD)));clear hB hC hA hD);go_roundw
       case rel=>exact ⟨k+1,a+2*s,Z,by go_num,by go_num,by omega,qh (by rw [Rr,← hk.out]),qh hE.out.1,qh (hb.out.trans hE.out.2.1),qh (hx.out.trans (hE.out.2.2.1.wide (by omega) (by omega) (by omega))),qh (hs.out.step hk.out (by omega) hE.out.2.2.1 hE.out.2.2.2)⟩
       case measure=>simp [intOf];omega
      ·have hH:¬(a:Int)+2*(s:Int)≤(N:Int):=by omega
       have w2:IntKind.i64.wrap ((s:Int)*2)=(s:Int)*2:=IntWalk.i64_in _ (by omega);by_cases hm:a+s<N
       ·have hI:(a:Int)+(s:Int)<(N:Int):=by omega
        have HP:=qh (And.intro (hs.out.lo hk.out (a+s) (by omega) (by omega)) (hs.out.hi hk.out N (by omega) (by omega)))
        go_wp2_with (go_at_call 57;refine (HM.out a (a+s) N Y _ (by omega) (by omega) (by omega) hr.out HP.out).mono ?_;rintro e V ⟨rfl,Z,hB,hC,hA,hD⟩;have hE:=qh (And.intro hB (And.intro hC (And.intro hA hD)));clear hB hC hA hD);go_roundw
        case rel=>exact ⟨2*s,Z,by go_num,by omega,by omega,qh hE.out.1,qh (hb.out.trans hE.out.2.1),qh (hx.out.trans (hE.out.2.2.1.wide (by omega) (by omega) (by omega))),qh (hs.out.step hk.out (by omega) hE.out.2.2.1 hE.out.2.2.2).1⟩
        case measure=>simp [intOf];omega
       ·have hI:¬(a:Int)+(s:Int)<(N:Int):=by omega
        have HP:=qh (hs.out.lo hk.out N (by omega) (by omega));go_wp2_with fail;go_roundw
        case rel=>exact ⟨2*s,Y,by go_num,by omega,by omega,hr,hb,hx,qh (hs.out.step hk.out hF (Stb.refl _ _ _ _) HP.out).1⟩
        case measure=>simp [intOf];omega
    ·have hl:¬(s:Int)<(N:Int):=by omega
     go_wp2_with fail;go_end0;exact ⟨rfl,Y,hr.out,hb.out,hx.out,hs.out.all (by omega)⟩
theorem PD(v:Value)(f:Value)(w:World):Calls Tryd.prog 56 #[v,int i64 0,int i64 0,f] w λe w'=>e=.returned (.tuple #[])∧w'=w:=by
 go_enter Tryd.func56,Tryd.ntmps56;go_wp2_with fail;refine wp_loop_rounds 1 ?_;rw [rounds_succ];go_wp2_with fail;go_end0;exact ⟨rfl,rfl⟩
theorem Lk(v:Value)(f:Value)(w:World):Calls Tryd.prog 36 #[v,int i64 0,f] w λe w'=>e=.returned (.tuple #[])∧w'=w:=by
 have HI:=qh (λV=>PD v f V);go_enter Tryd.func36,Tryd.ntmps36;go_wp2_with fail;refine wp_loop_rounds 1 ?_;rw [rounds_succ]
 go_wp2_with (go_at_call 56;refine (HI.out _).mono ?_;rintro e V ⟨rfl,rfl⟩);refine wp_loop_rounds 1 ?_;rw [rounds_succ];go_wp2_with fail;go_end0;exact ⟨rfl,rfl⟩
theorem Li(val:α→Sgn)(lt:α→α→Bool)(c:Nat)(hc:CmpOk val lt c)(g o cap N:Nat)(X:Nat→α)(w:World)(hN:N≤1000000)(hR:RowS val g o N X w) :
  Calls Tryd.prog 19 #[.slice (some ⟨g,o,none⟩) N cap,.func (.func c) #[] #[]] w (IT val lt g o N X 0 N w):=by
 have HS:=qh (MI val lt c hc g o cap N X w hN hR);clear hc hR;go_enter Tryd.func19,Tryd.ntmps19
 go_wp2_with (go_at_call 36;refine HS.out.mono ?_;rintro e V ⟨rfl,hv⟩;have HV:=qh hv;clear hv);go_end0;exact ⟨rfl,HV.out⟩
theorem Jw(ao:Option Addr)(cap:Nat)(f:Value)(w:World):Calls Tryd.prog 19 #[.slice ao 0 cap,f] w λe w'=>e=.returned (.tuple #[])∧w'=w:=by
 have HS:=qh (λV=>Lk (.slice ao 0 cap) f V);go_enter Tryd.func19,Tryd.ntmps19
 go_wp2_with (go_at_call 36;refine (HS.out _).mono ?_;rintro e V ⟨rfl,rfl⟩);go_end0;exact ⟨rfl,rfl⟩
end
end
section
open Go Go.RowKit Go.Deep
theorem KC{a b:Int}:CW a b<0↔a<b:=by
 unfold CW;by_cases h:a<b
 ·rw [if_pos h];simp [h]
 ·rw [if_neg h]
  split<;>simp [h]
def C7(a b:Sgn):Bool:=decide (a.bar<b.bar)
theorem J0:SwO C7:=⟨λ{x y} h=>by simp only [C7,decide_eq_true_eq,decide_eq_false_iff_not] at *;omega,λ{x y z} h k=>by simp only [C7,decide_eq_false_iff_not] at *;omega⟩
theorem J1{w:World}(o0 o1:Obj):Below w.heap.size w ((w.alloc o0).alloc o1):=((Below.refl _ w).alloc (qn _) _).alloc (by simp) _
theorem UJ:CmpOk id C7 31:=by
 refine ⟨J0,enters_of Tryd.func31 (by kernel_rfl) rfl,λx y V=>?_⟩;have HB:=qh (J1 (w:=V) (.cells (AC x).toArray 43) (.cells (AC y).toArray 43));unfold AC at HB
 show Calls Tryd.prog 31 #[.agg (AC x).toArray,.agg (AC y).toArray] V _
 unfold AC;go_enter Tryd.func31,Tryd.ntmps31
 go_wp2_with (go_at_call 22;refine (Gk x.bar y.bar _).mono ?_;rintro e w' ⟨rfl,rfl⟩);go_ret;exact ⟨_,rfl,by rw [KC];simp [C7],HB.out⟩
def Ns:Type:={ s:Sgn // Bs s.fn s.fd=true }
def CG(a b:Ns):Bool:=decide (a.1.fn*b.1.fd<b.1.fn*a.1.fd)
theorem Iu{n d:Int}(h:Bs n d=true):1≤d:=by
 unfold Bs at h;simp only [Bool.and_eq_true] at h;exact (AM.1 h.1.1).1
theorem F7:SwO CG:=by
 refine ⟨λ{x y} h=>?_,λ{x y z} h k=>?_⟩
 ·simp only [CG,decide_eq_true_eq,decide_eq_false_iff_not] at *;omega
 ·simp only [CG,decide_eq_false_iff_not] at *
  have hx:=Iu x.2;have hy:=Iu y.2;have hz:=Iu z.2;obtain ⟨x,_⟩:=x;obtain ⟨y,_⟩:=y;obtain ⟨z,_⟩:=z;simp only at *;have h1:x.fn*y.fd*z.fd≤y.fn*x.fd*z.fd:=Int.mul_le_mul_of_nonneg_right (by omega) (by omega);have h2:y.fn*z.fd*x.fd≤z.fn*y.fd*x.fd:=Int.mul_le_mul_of_nonneg_right (by omega) (by omega);have e1:x.fn*y.fd*z.fd=y.fd*(x.fn*z.fd):=by rw [Int.mul_comm x.fn,Int.mul_assoc]
  have e2:y.fn*x.fd*z.fd=y.fn*z.fd*x.fd:=by rw [Int.mul_assoc,Int.mul_comm x.fd,← Int.mul_assoc]
  have e3:z.fn*y.fd*x.fd=y.fd*(z.fn*x.fd):=by rw [Int.mul_comm z.fn,Int.mul_assoc]
  have h3:y.fd*(x.fn*z.fd)≤y.fd*(z.fn*x.fd):=by omega
  have:=Int.le_of_mul_le_mul_left h3 (by omega);omega
theorem UI:CmpOk (λs:Ns=>s.1) CG 20:=by
 refine ⟨F7,enters_of Tryd.func20 (by kernel_rfl) rfl,λx y V=>?_⟩;obtain ⟨x,hx⟩:=x;obtain ⟨y,hy⟩:=y;have hb:=J1 (w:=V) (.cells (AC x).toArray 43) (.cells (AC y).toArray 43);unfold AC at hb;obtain ⟨W,hW⟩:∃W,(V.alloc (.cells (AC x).toArray 43)).alloc (.cells (AC y).toArray 43)=W:=⟨_,rfl⟩;have C:=λW=>Eo x.fn x.fd y.fn y.fd W
 unfold EV at C;rw [hx,hy] at C;simp only [Bool.and_self,if_true] at C;have HC:=qh C;have HB:=qh hb;clear C hb hW W
 show Calls Tryd.prog 20 #[.agg (AC x).toArray,.agg (AC y).toArray] V _
 unfold AC;go_enter Tryd.func20,Tryd.ntmps20
 go_wp2_with (go_at_call 9;refine (HC.out _).mono ?_;rintro e w' ⟨rfl,hA⟩;have hB:=qh (Ag HB.out hA);clear hA);go_ret;exact ⟨_,rfl,by rw [KC];simp [CG],hB.out⟩
end
end Go.Proofs.YtbkemlgfdklpfaaDoor
