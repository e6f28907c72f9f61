/- Contracts and plain laws on the way to the statement: part 20. -/
import Derived.Test.YtbkemlgfdklpfaaGreatDoorV10
import Derived.Test.YtbkemlgfdklpfaaGreatDoorV13
import Derived.Shelf.Abstract
import Derived.Shelf.RegionOpen
import Derived.OwnWalkIn
import Derived.TacticsInMore
import Derived.LoopNIn
import Derived.LoopIn
import Derived.Test.YtbkemlgfdklpfaaGreatDoorV4
set_option linter.unusedVariables false
set_option linter.unusedSimpArgs false
set_option maxRecDepth 100000
set_option maxHeartbeats 16000000
namespace Go.Proofs.YtbkemlgfdklpfaaGreatDoor
open Go.Value (int)
open Go.IntKind (i64)
section
open Go Go.RowKit Go.Shelf
def Aw(c:Int):List PanicEntry:=[{ v:=.iface 40 (int i64 c),recovered:=false }]
def IB(x:RefL):Array Value:=#[.pointer (some ⟨x.b,x.o,none⟩),int i64 (x.to:Int)]
structure InW(B0 l yB tB:Nat)(W:World):Prop where
 by_:W.heap[yB]?=some (.cells #[.func (.yield l) #[] #[]] 194 (0,0))
 bt:W.heap[tB]?=some (.cells #[.func (.func 131) #[] #[.pointer (some ⟨yB,0,none⟩),.pointer (some ⟨tB,0,none⟩)]] 133 (0,0))
 ge:B0≤yB∧B0≤tB
theorem InW.keep{B0 l yB tB:Nat}{W W':World}(h:InW B0 l yB tB W)(hb:Beyond B0 W W'):InW B0 l yB tB W' :=
 ⟨(hb.2 _ h.ge.1 (qs.1 h.by_).1 (RowInt.other h.by_ (by simp))).trans h.by_,(hb.2 _ h.ge.2 (qs.1 h.bt).1 (RowInt.other h.bt (by simp))).trans h.bt,h.ge⟩
def InP(B0:Nat)(J:List RefL→World→Prop)(Jx Jp:World→Prop)(pre L:List RefL)(ks:Bool)(W:World)(e:Ending)(W':World):Prop :=
 (e=.returned (.bool true)∧ks=true∧J (pre++L) W'∧Beyond B0 W W')∨(e=.returned (.bool false)∧Jx W')∨(e=.panicked (Aw 170)∧Jp W')
structure InH(B0 l:Nat)(J:List RefL→World→Prop)(Jx Jp:World→Prop)(A:List RefL)(ok:Prop)(Rd:World→Prop):Prop where
 kept:Lp J
 rd:∀pre W,J pre W→Rd W
 yield:∀pre x rest W,A=pre++x::rest→J pre W→∀m,YieldAt Fence.wide m Tryz.prog l (IB x) W (Ua B0 J Jx Jp (Aw 170) pre x W)
 bad:∀pre rest W,A=pre++rest→¬ok→J pre W→Jp W
theorem InH.one{B0 l:Nat}{J:List RefL→World→Prop}{Jx Jp:World→Prop}{A:List RefL}{ok:Prop}{Rd:World→Prop}(h:InH B0 l J Jx Jp A ok Rd){pre rest:List RefL}{x:RefL}{W W1:World}(hA:A=pre++x::rest)(hj:J pre W)(hb:Below W.heap.size W W1)(m:Nat) :
  ∃fn tmps assign body,(Instr.yield l (IB x)).run Tryz.prog W1=.ok (.round l fn tmps assign body) W1∧RoundIn Fence.wide m Tryz.prog l fn tmps assign body W1 (λe W'=>(∃t,e=.returned (.bool t)∧Hid ((t=true∧J (pre++[x]) W'∧Beyond B0 W1 W')∨(t=false∧Jx W')))∨(e=.panicked (Aw 170)∧Jp W')):=by
 refine YieldAt.to (h.yield pre x rest W1 hA (h.kept _ _ _ hj hb) m) ?_;rintro e W' (⟨rfl,h1,h2⟩|⟨rfl,h1⟩|⟨rfl,h1⟩)
 ·exact Or.inl ⟨true,rfl,qh (Or.inl ⟨rfl,h1,h2⟩)⟩
 ·exact Or.inl ⟨false,rfl,qh (Or.inr ⟨rfl,h1⟩)⟩
 ·exact Or.inr ⟨rfl,h1⟩
section
attribute [local go_sem] Oper.semAt_some
theorem QZ(B0 l yB tB:Nat)(J:List RefL→World→Prop)(Jx Jp:World→Prop)(A:List RefL)(ok:Prop)(Rd:World→Prop)(hH:InH B0 l J Jx Jp A ok Rd)(T:Lt)
  (hI:∀T':Lt,T'.size<T.size→∀(ia:Option Addr) (ic:Nat) (pre post:List RefL) (W:World),(T'.len=0∨ia=some ⟨blk ia,off ia,none⟩)→T'.len≤maxLen→A=pre++(T'.refsL (blk ia) (off ia)++post)→(∀W,Rd W→T'.At W (blk ia) (off ia))→(T'.strip.kinds=false→¬ok)→InW B0 l yB tB W→J pre W →
   Calls Tryz.prog 131 #[.slice ia T'.len ic,.pointer (some ⟨yB,0,none⟩),.pointer (some ⟨tB,0,none⟩)] W (InP B0 J Jx Jp pre (T'.refsL (blk ia) (off ia)) T'.strip.kinds W))
  (b o ic:Nat) (pre post:List RefL) (W:World) (hX:T.len≤maxLen) (hA:A=pre++(T.refsL b o++post)) (hT:∀W,Rd W→T.At W b o) (hu:T.strip.kinds=false→¬ok) (hW:InW B0 l yB tB W) (hj:J pre W) :
  Calls Tryz.prog 131 #[.slice (some ⟨b,o,none⟩) T.len ic,.pointer (some ⟨yB,0,none⟩),.pointer (some ⟨tB,0,none⟩)] W (InP B0 J Jx Jp pre (T.refsL b o) T.strip.kinds W):=by
 have HH:=qh hH;have HI:=qh hI;have HT:=qh hT;have hS:=qh hu;have HW:=qh hW;have HJ:=qh hj;have HA:=qh hA;clear hH hI hT hu hW hj hA;generalize hn:T.len=n at *;have HN:=qh hn;clear hn;unfold maxLen at hX;have mixed:Tryz.prog.follows .mixedOrders=true:=by kernel_rfl
 refine (callsIn_wide (n:=10)).1 ?_;refine callsIn_of_wp Tryz.func131 rfl trivial ?_ rfl;simp only [Tryz.ntmps131,List.size_toArray,List.length_cons,List.length_nil,Nat.reduceAdd,Nat.reduceSub,Array.replicate_succ,Array.replicate_zero,List.push_toArray,List.append_toArray,List.nil_append,List.cons_append];gi_wp2_with fail;gi_loopw [13] (λiv wr=>∃(i:Nat) (R:Lt) (q:List RefL),iv=int i64 i∧i+R.len=n∧Hid (R.size≤T.size)∧Hid (T.refsL b o=q++R.refsL b (o+i*6))∧Hid (T.strip.kinds=R.strip.kinds)∧Hid (∀W,Rd W→R.At W b (o+i*6))∧Hid (J (pre++q) wr)∧Hid (InW B0 l yB tB wr)∧Hid (Beyond B0 W wr)) (λiv _=>n+1-(intOf iv).toNat)
 case atStart=>exact ⟨0,T,[],rfl,by rw [HN.out];omega,qh (qn _),qh (by simp),qh rfl,by simpa [Hid] using HT.out,qh (by simpa using HJ.out),HW,qh (Beyond.refl _ _)⟩
 case round =>
  obtain ⟨i,R,q,rfl,hv,hY,hq,hE,hR,hJ,hw,hz⟩:=hrel
  cases R with
  | nil =>
   simp only [Lt.len] at hv;obtain rfl:i=n:=by omega
   gi_wp2_with fail;go_ret;refine Or.inl ⟨rfl,?_,?_,hz.out⟩
   ·rw [hE.out];rfl
   ·have:=hq.out
    simp only [Lt.refsL,List.append_nil] at this;rw [this];exact hJ.out
  | cons k n' un ia ic' its ma mc ms r =>
   simp only [Lt.len] at hv;have hi:(i:Int)<(n:Int):=by omega
   have HO:=hR.out wr (HH.out.rd _ _ hJ.out);obtain ⟨⟨g0,g1,g2,g4,g5⟩,⟨m1,m2,m3⟩,⟨i1,i2,i3⟩,hr⟩:=HO;have cy:=cell_of_one hw.out.by_;clear m1 m2 m3 i1 i2 i3 hr
   have hG:A=(pre++q)++((⟨b,o+i*6+2,By k,un⟩:RefL)::(As (blk ma) (off ma) ms++(its.refsL (blk ia) (off ia)++(r.refsL b (o+i*6+6)++post)))):=by
    rw [HA.out,hq.out];simp [Lt.refsL]
   by_cases hK:1≤k∧k≤4
   ·obtain ⟨hZ,h0⟩:=hK
    have hc:(By k=2∧(k==4)=true)∨(By k=0∧(k==4)=false):=by
     unfold By;by_cases h4:k=4
     ·left;simp [h4]
     ·right;simp [h4]
    have HQ:=ma;clear HQ;rcases hc with ⟨h5,h4⟩|⟨h5,h4⟩
    all_goals
     gi_wp2_with (refine ⟨trivial,?_⟩;refine (callsIn_wide.2 (Bv _ _)).mono ?_;rintro e w' ⟨rfl,rfl⟩);obtain ⟨fn',tmps',assign',body',hy,hL⟩:=HH.out.one hG hJ.out ((Below.refl wr.heap.size wr).drew) 9;unfold IB at hy;simp only [h5] at hy
     first|rw [show ((2:Nat):Int)=2 from rfl] at hy|rw [show ((0:Nat):Int)=0 from rfl] at hy
     have hN:=qh hL;have h6:=qh hG;clear hL hG g0 g1 g2;gi_region_with_o (refine RoundIn.mono (RoundIn.anyDepth rfl hN.out) ?_;rintro e W2 (⟨t1,rfl,h1⟩|⟨rfl,hp⟩);rotate_left;(exact ⟨rfl,Or.inr (Or.inr ⟨rfl,hp⟩)⟩));clear hy hN cy
     cases t1 with
     | false =>
      have hx:Jx W2:=by
       rcases h1.out with ⟨q1,_⟩|⟨_,q2⟩
       ·cases q1
       ·exact q2
      have HX:=qh hx;clear hx h1;gi_wp2_with fail;go_ret;exact Or.inr (Or.inl ⟨rfl,HX.out⟩)
     | true =>
      obtain ⟨h9,ha⟩:J (pre++q++[(⟨b,o+i*6+2,By k,un⟩:RefL)]) W2∧Beyond B0 wr W2:=by
       rcases h1.out with ⟨_,q1,q2⟩|⟨q1,_⟩
       ·exact ⟨q1,q2⟩
       ·cases q1
      have HB:=qh h9;have HR:=qh (hz.out.trans ha);have HS:=qh (hw.out.keep ha);clear h9 ha h1;have hb:=hR.out W2 (HH.out.rd _ _ HB.out);obtain ⟨⟨g0,g1,g2,g4,g5⟩,⟨m1,m2,m3⟩,_⟩:=hb;have HU:=qh m1;clear g0 g1 g2 g4 m1 m3;unfold maxLen at m2;generalize HC:ms.length=nm at *;have hd:=qh HC;clear HC;gi_wp2_with fail;gi_loopw [49] (λjv wq=>∃(j:Nat) (M:List Mov) (q2:List RefL),jv=int i64 j∧j+M.length=nm∧Hid (As (blk ma) (off ma) ms=q2++As (blk ma) (off ma+j*12) M)∧Hid (ms.all DV=M.all DV)∧Hid (∀W,Rd W→Be W (blk ma) (off ma+j*12) M)∧Hid (J (pre++q++[(⟨b,o+i*6+2,By k,un⟩:RefL)]++q2) wq)∧Hid (InW B0 l yB tB wq)∧Hid (Beyond B0 W wq)) (λjv _=>nm+1-(intOf jv).toNat)
      case atStart=>exact ⟨0,ms,[],rfl,by rw [hd.out];omega,qh (by simp),qh rfl,qh (λW hW=>by
        have:=(hR.out W hW).2.1.2.2
        simpa using this),qh (by simpa using HB.out),HS,HR⟩
      case round =>
       obtain ⟨j,M,q2,rfl,HD,he,hC,hM,hD,hF,HE⟩:=hrel
       cases M with
       | nil =>
        simp only [List.length_nil] at HD;obtain rfl:j=nm:=by omega
        have hf:=hR.out wr (HH.out.rd _ _ hD.out);obtain ⟨⟨g0,g1,g2,g4,g5'⟩,_,⟨i1,i2,i3⟩,_⟩:=hf;have hU:=he.out;simp only [As,List.append_nil] at hU;have hg:=hC.out;simp only [List.all_nil] at hg
        have hh:A=(pre++q++[(⟨b,o+i*6+2,By k,un⟩:RefL)]++q2)++(its.refsL (blk ia) (off ia)++(r.refsL b (o+i*6+6)++post)):=by
         rw [h6.out,hU];simp
        have HV:=HI.out its (by have:=hY.out;simp only [Lt.size] at this;omega) ia ic' _ _ wr i1 i2 hh (λW hW=>(hR.out W hW).2.2.1.2.2) (λhk=>hS.out (by
         rw [hE.out];simp only [Lt.strip,Its.kinds];rw [hk];simp)) hF.out hD.out
        have hO:Calls Tryz.prog 131 #[.slice ia its.len ic',.pointer (some ⟨yB,0,none⟩),.pointer (some ⟨tB,0,none⟩)] wr.drew (λe W'=>(∃t,e=.returned (.bool t)∧Hid (InP B0 J Jx Jp (pre++q++[(⟨b,o+i*6+2,By k,un⟩:RefL)]++q2) (its.refsL (blk ia) (off ia)) its.strip.kinds wr (.returned (.bool t)) W'))∨(e=.panicked (Aw 170)∧Jp W')):=by
         have hl:=HI.out its (by have:=hY.out;simp only [Lt.size] at this;omega) ia ic' _ _ wr.drew i1 i2 hh (λW hW=>(hR.out W hW).2.2.1.2.2) (λhk=>hS.out (by
          rw [hE.out];simp only [Lt.strip,Its.kinds];rw [hk];simp)) (hF.out.keep (Beyond.of_below (Below.refl _ _).drew)) (HH.out.kept _ _ _ hD.out (Below.refl _ _).drew)
         refine hl.mono ?_;intro e W' h;rcases h with ⟨rfl,h1,h2,h3⟩|⟨rfl,h1⟩|⟨rfl,h1⟩
         ·exact Or.inl ⟨true,rfl,qh (Or.inl ⟨rfl,h1,h2,h3⟩)⟩
         ·exact Or.inl ⟨false,rfl,qh (Or.inr (Or.inl ⟨rfl,h1⟩))⟩
         ·exact Or.inr ⟨rfl,h1⟩
        have HF:=qh hO;have HY:=qh hU;have HZ:=qh hg;have ct:=cell_of_one hF.out.bt;clear HV hO hh hU hg g0 g1 g2 g5' i1 i2 i3;gi_wp2_with fail;gi_region_with_o (refine ⟨trivial,?_⟩;refine (callsIn_wide.2 HF.out).mono ?_;rintro e W4 (⟨t4,rfl,h4⟩|⟨rfl,hp⟩);rotate_left;(exact ⟨rfl,Or.inr (Or.inr ⟨rfl,hp⟩)⟩))
        all_goals clear ct HF
        all_goals cases t4 with
        | false =>
         have hx:Jx W4:=by
          rcases h4.out with ⟨q1,_⟩|⟨_,q2⟩|⟨q1,_⟩
          ·cases q1
          ·exact q2
          ·cases q1
         have HX:=qh hx;clear hx h4;gi_wp2_with fail;go_ret;exact Or.inr (Or.inl ⟨rfl,HX.out⟩)
        | true =>
         obtain ⟨hQ,HG,hm⟩:its.strip.kinds=true∧J ((pre++q++[(⟨b,o+i*6+2,By k,un⟩:RefL)]++q2)++its.refsL (blk ia) (off ia)) W4∧Beyond B0 wr W4:=by
          rcases h4.out with ⟨_,q1⟩|⟨q1,_⟩|⟨q1,_⟩
          ·exact q1
          ·cases q1
          ·cases q1
         have Ha:=qh hQ;have Hb:=qh HG;have Hc:=qh (HE.out.trans hm);have Hd:=qh (hF.out.keep hm);clear hQ HG hm h4;gi_wp2_with fail;go_roundw
         case rel=>exact ⟨i+1,r,q++([(⟨b,o+i*6+2,By k,un⟩:RefL)]++(q2++its.refsL (blk ia) (off ia))),by go_num,by omega,qh (by have:=hY.out;simp only [Lt.size] at this;omega),qh (by
           rw [hq.out];simp only [Lt.refsL];rw [HY.out,Nat.add_mul,Nat.one_mul,← Nat.add_assoc];simp),qh (by
           rw [hE.out];simp only [Lt.strip,Its.kinds];rw [HZ.out,Ha.out,show (decide (1≤k)&&decide (k≤4))=true by simp [hZ,h0]];rfl),qh (λW hW=>by
           have:=(hR.out W hW).2.2.2
           rw [Nat.add_mul,Nat.one_mul,← Nat.add_assoc];exact this),qh (by have:=Hb.out;simpa [List.append_assoc] using this),Hd,Hc⟩
         case measure=>simp [intOf];omega
       | cons m mr =>
        simp only [List.length_cons] at HD;have Hl:(j:Int)<(nm:Int):=by omega
        have He:=hM.out wr (HH.out.rd _ _ hD.out);obtain ⟨⟨v0,v1,v2,v3,v4,v5,v6,v8,v9,v10,v11⟩,_⟩:=He;obtain ⟨⟨_,_,_,_,g5q⟩,_⟩:=hR.out wr (HH.out.rd _ _ hD.out);rw [hd.out] at g5q;have Hf:ma=some ⟨blk ma,off ma,none⟩:=HU.out.resolve_left (λe=>by have:=hd.out;rw [e] at this;simp at this;omega);have cy:=cell_of_one hF.out.by_
        have hV:A=(pre++q++[(⟨b,o+i*6+2,By k,un⟩:RefL)]++q2)++((⟨blk ma,off ma+j*12+6,Dh m.kind,m.wn⟩:RefL)::(As (blk ma) (off ma+j*12+12) mr++(its.refsL (blk ia) (off ia)++(r.refsL b (o+i*6+6)++post)))):=by
         rw [h6.out,he.out];simp [As]
        clear v0 v2 v3 v4 v5 v6 v8 v9 v10 v11;generalize Hm:blk ma=mb at *;generalize Hn:off ma=mo at *;subst Hf;by_cases hK:1≤m.kind∧m.kind≤9
        ·obtain ⟨ho,HK⟩:=hK
         have HL:DV m=true:=by unfold DV;simp [ho,HK]
         have Hg:=qh HL
         have Hh:(Dh m.kind=1∧(m.kind==7)=true)∨(Dh m.kind=1∧(m.kind==7)=false∧(m.kind==8)=true)∨(Dh m.kind=0∧(m.kind==7)=false∧(m.kind==8)=false):=by
          unfold Dh;by_cases h7:m.kind=7
          ·left;simp [h7]
          ·by_cases h8:m.kind=8
           ·right;left;simp [h8]
           ·right;right;simp [h7,h8]
         clear HL;rcases Hh with ⟨hs,h7⟩|⟨hs,h7,h8⟩|⟨hs,h7,h8⟩
         all_goals
          gi_wp2_with (refine ⟨trivial,?_⟩;refine (callsIn_wide.2 (Bv _ _)).mono ?_;rintro e w' ⟨rfl,rfl⟩);obtain ⟨fn',tmps',assign',body',hy,hL⟩:=HH.out.one hV hD.out ((Below.refl wr.heap.size wr).drew) 9;unfold IB at hy;simp only [hs] at hy
          first|rw [show ((1:Nat):Int)=1 from rfl] at hy|rw [show ((0:Nat):Int)=0 from rfl] at hy
          have hN:=qh hL;clear hL hV v1;gi_region_with_o (refine RoundIn.mono (RoundIn.anyDepth rfl hN.out) ?_;rintro e W3 (⟨t1,rfl,h1⟩|⟨rfl,hp⟩);rotate_left;(exact ⟨rfl,Or.inr (Or.inr ⟨rfl,hp⟩)⟩));clear hy hN cy
          cases t1 with
          | false =>
           have hx:Jx W3:=by
            rcases h1.out with ⟨q1,_⟩|⟨_,q2⟩
            ·cases q1
            ·exact q2
           have HX:=qh hx;clear hx h1;gi_wp2_with fail;go_ret;exact Or.inr (Or.inl ⟨rfl,HX.out⟩)
          | true =>
           obtain ⟨HM,ht⟩:J (pre++q++[(⟨b,o+i*6+2,By k,un⟩:RefL)]++q2++[(⟨mb,mo+j*12+6,Dh m.kind,m.wn⟩:RefL)]) W3∧Beyond B0 wr W3:=by
            rcases h1.out with ⟨_,q1,q2⟩|⟨q1,_⟩
            ·exact ⟨q1,q2⟩
            ·cases q1
           have Hi:=qh HM;have Hj:=qh (HE.out.trans ht);have Hk:=qh (hF.out.keep ht);clear HM ht h1;gi_wp2_with fail;go_roundw
           case rel=>exact ⟨j+1,mr,q2++[(⟨mb,mo+j*12+6,Dh m.kind,m.wn⟩:RefL)],by go_num,by omega,qh (by
             rw [he.out];simp only [As];rw [Nat.add_mul,Nat.one_mul,← Nat.add_assoc];simp),qh (by
             rw [hC.out,List.all_cons,Hg.out,Bool.true_and]),qh (λW hW=>by
             have:=(hM.out W hW).2
             rw [Nat.add_mul,Nat.one_mul,← Nat.add_assoc];exact this),qh (by have:=Hi.out;simpa [List.append_assoc] using this),Hk,Hj⟩
           case measure=>simp [intOf];omega
        ·have hB:T.strip.kinds=false:=by
          rw [hE.out];simp only [Lt.strip,Its.kinds];rw [hC.out,List.all_cons,show DV m=false by unfold DV;simp;omega];simp
         have hP:InP B0 J Jx Jp pre (T.refsL b o) T.strip.kinds W (.panicked (Aw 170)) wr:=Or.inr (Or.inr ⟨rfl,HH.out.bad _ _ _ hV (hS.out hB) hD.out⟩);have HP:=qh hP;unfold Aw at HP;clear hP hB hV cy;by_cases ho:1≤m.kind
         ·have HK:¬m.kind≤9:=λh=>hK ⟨ho,h⟩
          gi_wp2_with (refine ⟨trivial,?_⟩;refine (callsIn_wide.2 (AE _ _)).mono ?_;unfold Ak;rintro e w' ⟨rfl,rfl⟩);exact ⟨rfl,HP.out⟩
         ·gi_wp2_with (refine ⟨trivial,?_⟩;refine (callsIn_wide.2 (AE _ _)).mono ?_;unfold Ak;rintro e w' ⟨rfl,rfl⟩)
          exact ⟨rfl,HP.out⟩
   ·have hB:T.strip.kinds=false:=by
     rw [hE.out];simp only [Lt.strip,Its.kinds];rw [show (decide (1≤k)&&decide (k≤4))=false by simp;omega];rfl
    have hP:InP B0 J Jx Jp pre (T.refsL b o) T.strip.kinds W (.panicked (Aw 170)) wr:=Or.inr (Or.inr ⟨rfl,HH.out.bad _ _ _ hG (hS.out hB) hJ.out⟩);have HP:=qh hP;unfold Aw at HP;clear hP hB hG;by_cases hZ:1≤k
    ·have h0:¬k≤4:=λh=>hK ⟨hZ,h⟩
     gi_wp2_with (refine ⟨trivial,?_⟩;refine (callsIn_wide.2 (AE _ _)).mono ?_;unfold Ak;rintro e w' ⟨rfl,rfl⟩);exact ⟨rfl,HP.out⟩
    ·gi_wp2_with (refine ⟨trivial,?_⟩;refine (callsIn_wide.2 (AE _ _)).mono ?_;unfold Ak;rintro e w' ⟨rfl,rfl⟩)
     exact ⟨rfl,HP.out⟩
end
end
end Go.Proofs.YtbkemlgfdklpfaaGreatDoor
