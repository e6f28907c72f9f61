/- Contracts and plain laws on the way to the statement: part 30. -/
import Derived.Test.YtbkemlgfdklpfaaGreatDoorV29
import Derived.Test.YtbkemlgfdklpfaaGreatDoorV5
import Derived.Lib.Hide
import Derived.LoopIn
import Derived.LoopNIn
import Derived.OneCell
import Derived.OwnWalkIn
import Derived.RegionIn
import Derived.Shelf.Abstract
import Derived.Sort.LoopGhostIn
import Derived.TacticsInMore
import Derived.WalkKit
import Derived.WalkLawsBesides
import Derived.WalkSpells
import Derived.Test.YtbkemlgfdklpfaaGreatDoorV4
set_option linter.unusedVariables false
set_option linter.unusedSimpArgs false
set_option maxRecDepth 100000
set_option maxHeartbeats 16000000
namespace Go.Proofs.YtbkemlgfdklpfaaGreatDoor
open Go.Value (int)
open Go.IntKind (i64)
section
open Go Go.RowKit
open Go.RowKit
theorem MZ{a b:Int}(h:a=b):Ending.returned (.int .u64 a)=.returned (.int .u64 b):=by rw [h]
theorem wrap_u64(n:Int):IntKind.u64.wrap n=n % 18446744073709551616:=by
 unfold IntKind.wrap;simp [IntKind.signed,IntKind.bits]
theorem FG(a:Int)(w:World):Calls Tryz.prog 67 #[int i64 a] w λe w'=>e=.returned (.bool false)∧w=w':=by
 go_enter Tryz.func67,Tryz.ntmps67;go_wp2;go_ret;exact ⟨Az (by simp),rfl⟩
theorem G6(a b:Int)(w:World):Calls Tryz.prog 36 #[int i64 a,int i64 b] w λe w'=>e=.returned (int i64 (CQ a b))∧w=w':=by
 by_cases h1:a<b
 ·go_enter Tryz.func36,Tryz.ntmps36
  go_wp2_with (go_at_call 67;refine (FG _ _).mono ?_;rintro e w' ⟨rfl,rfl⟩);go_ret;exact ⟨AK (by unfold CQ;rw [if_pos h1]),rfl⟩
 ·by_cases h2:b<a
  ·go_enter Tryz.func36,Tryz.ntmps36
   go_wp2_with (go_at_call 67;refine (FG _ _).mono ?_;rintro e w' ⟨rfl,rfl⟩);go_ret;exact ⟨AK (by unfold CQ;rw [if_neg (by omega),if_pos h2]),rfl⟩
  ·go_enter Tryz.func36,Tryz.ntmps36
   go_wp2_with (go_at_call 67;refine (FG _ _).mono ?_;rintro e w' ⟨rfl,rfl⟩);go_ret;exact ⟨AK (by unfold CQ;rw [if_neg (by omega),if_neg (by omega)]),rfl⟩
theorem IC(n:Int)(h1:-1073741824≤n)(h2:n≤1073741824)(w:World):Calls Tryz.prog 110 #[int i64 n] w λe w'=>e=.returned (.int .u64 (n.natAbs:Nat))∧w=w':=by
 by_cases h:n<0
 ·go_enter Tryz.func110,Tryz.ntmps110
  go_wp2;go_ret;exact ⟨MZ (by rw [wrap_u64,wrap_u64];omega),rfl⟩
 ·go_enter Tryz.func110,Tryz.ntmps110
  go_wp2;go_ret;exact ⟨MZ (by omega),rfl⟩
open Go.RowKit Go.Shelf
attribute [local go_sem] Oper.semAt_some
theorem RG(n l Ba Bb:Nat)(hn:1≤n)(a b:Nat)(hI:1≤b)(ha:a≤1073741824)(hb:b≤1073741824)(J:List Nat→World→Prop)(hJ:Jq (λk=>k=Ba∨k=Bb) J)(hT:Ba≠Bb)
  (hY:∀pre x W1,J pre W1→YieldAt Fence.wide (n-1) Tryz.prog l #[.int .u64 (x:Nat)] W1 λe W'=>e=.returned (.bool true)∧J (pre++[x]) W'∧∀k,k=Ba∨k=Bb→W'.heap[k]?=W1.heap[k]?)
  (W:World) (hK:W.heap[Ba]?=some (.cells #[.int .u64 a] 164 (0,0))) (hL:W.heap[Bb]?=some (.cells #[.int .u64 b] 164 (0,0))) (h0:J [] W) :
  CallsIn Fence.wide n Tryz.prog 163 #[.func (.yield l) #[] #[],.pointer (some ⟨Ba,0,none⟩),.pointer (some ⟨Bb,0,none⟩)] W λe W'=>(∃v,e=.returned v)∧∃xs,xs.getLastD b=Nat.gcd a b∧J xs W':=by
 refine callsIn_of_wp Tryz.func163 rfl trivial ?_ rfl;simp only [Tryz.ntmps163,List.size_toArray,List.length_cons,List.length_nil,Nat.reduceAdd,Nat.reduceSub,Array.replicate_succ,Array.replicate_zero,List.push_toArray,List.append_toArray,List.nil_append,List.cons_append];gi_wp2;gi_loopg [] (b) (λk wr=>∃(a':Nat) (pre:List Nat),1≤k∧a'≤1073741824∧k≤1073741824∧Hid (Nat.gcd a' k=Nat.gcd a b)∧Hid (pre=[]→k=b)∧Hid (pre≠[]→1≤a')∧Hid (wr.heap[Ba]?=some (.cells #[.int .u64 a'] 164 (0,0)))∧Hid (wr.heap[Bb]?=some (.cells #[.int .u64 k] 164 (0,0)))∧Hid (J pre wr))
 case atStart=>exact ⟨a,[],hI,ha,hb,qh rfl,qh (λ_=>rfl),qh (λh=>absurd rfl h),qh hK,qh hL,qh h0⟩
 case round =>
  obtain ⟨a',pre,hM,hU,hk,hg,hp,hq,hB,hC,hj⟩:=hrel;have ca:=cell_of_one hB.out;have cb:=cell_of_one hC.out;by_cases hD:a'=0
  ·have f1:((a':Int) != 0)=false:=by simpa using by omega
   have HA:=qh hD;clear hD;gi_wp2;refine ⟨λ_ _=>trivial,?_⟩;gi_wp2;go_end0
   have hE:pre=[]:=by
    cases pre with
    | nil=>rfl
    | cons x r=>exact absurd (hq.out (by simp)) (by have:=HA.out;omega)
   have h1:=hg.out;have h2:=hp.out hE;refine ⟨⟨_,rfl⟩,pre,?_,hj.out⟩;rw [hE,← h1,HA.out,Nat.gcd_zero_left,h2];rfl
  ·have f1:((a':Int) != 0)=true:=by simpa using by omega
   have emax:max ((gk:Nat):Int) 1=((gk:Nat):Int):=by omega
   obtain ⟨fn,tmps,assign,body,hy,hR⟩:=hY pre a' wr hj.out;have HY:=qh hY;clear hY;gi_wp2;refine hR.mono ?_;rintro e W3 ⟨rfl,hF,hA⟩;have ba3:=(hA Ba (Or.inl rfl)).trans hB.out;have bb3:=(hA Bb (Or.inr rfl)).trans hC.out;clear hy hR ca cb hA;have ca3:=cell_of_one ba3;have cb3:=cell_of_one bb3;have fa3:=free_of_one ba3;have fb3:=free_of_one bb3;have BA3:=qh ba3;have BB3:=qh bb3;have hN:=qh hF;clear ba3 bb3 hF;gi_wp2;have emod:((a':Int) % (gk:Int))=((a' % gk:Nat):Int):=by omega
   have EM:=qh emod;clear emod;have hO:a' % gk<gk:=Nat.mod_lt _ (by omega)
   have vB:((((W3.setCell ⟨Ba,0,none⟩ (.int .u64 gk)).setCell ⟨Bb,0,none⟩ (.int .u64 ((a':Int) % (gk:Int)))).drew).heap[Bb]?=some (.cells #[.int .u64 ((a' % gk:Nat):Int)] 164 (0,0))):=by
    rw [EM.out];exact one_setCell ((Below.heap_setCell _ _ _ _ (by show Bb≠Ba;omega)).trans BB3.out)
   have vA:((((W3.setCell ⟨Ba,0,none⟩ (.int .u64 gk)).setCell ⟨Bb,0,none⟩ (.int .u64 ((a':Int) % (gk:Int)))).drew).heap[Ba]?=some (.cells #[.int .u64 gk] 164 (0,0))) :=
    (Below.heap_setCell _ _ _ _ (by show Ba≠Bb;omega)).trans (one_setCell BA3.out)
   have vJ:J (pre++[a']) (((W3.setCell ⟨Ba,0,none⟩ (.int .u64 gk)).setCell ⟨Bb,0,none⟩ (.int .u64 ((a':Int) % (gk:Int)))).drew) :=
    hJ.2 _ _ 1 (hJ.1 _ _ _ _ (Or.inr rfl) (hJ.1 _ _ _ _ (Or.inl rfl) hN.out))
   have VA:=qh vA;have VB:=qh vB;have VJ:=qh vJ;clear vA vB vJ;have hG:=HY.out _ gk _ VJ.out;have hP:=qh hG;clear hG;by_cases hz:a' % gk=0
   ·have f2:((a':Int) % (gk:Int)==0)=true:=by rw [EM.out,hz];rfl
    have HZ:=qh hz;clear hz;gi_region;obtain ⟨fn2,tmps2,assign2,body2,hQ,hH⟩:=hP.out;gi_wp2;refine hH.mono ?_;rintro e W4 ⟨rfl,hS,_⟩;clear hQ hH;gi_wp2;refine bodyPost_ret (results_none rfl _ _ _) rfl ?_;refine ⟨⟨_,rfl⟩,_,?_,hS⟩;rw [List.getLastD_concat,← hg.out,Nat.gcd_comm,Nat.gcd_rec,HZ.out,Nat.gcd_zero_left]
   ·have f2:((a':Int) % (gk:Int)==0)=false:=by rw [EM.out];simpa using by omega
    have HZ:=qh hz;clear hz;gi_region;gi_wp2;gi_roundg (a' % gk)
    case measure=>exact hO
    case rel=>exact ⟨gk,pre++[a'],by have:=HZ.out;omega,hk,by omega,qh (by rw [← hg.out,Nat.gcd_comm gk,← Nat.gcd_rec,Nat.gcd_comm]),qh (λh=>by simp at h),qh (λ_=>hM),VA,VB,VJ⟩
theorem Kq(a b:Nat)(hC:1≤b)(ha:a≤1073741824)(hb:b≤1073741824)(w:World) :
  Calls Tryz.prog 109 #[.int .u64 a,.int .u64 b] w λe w'=>e=.returned (.int .u64 (Nat.gcd a b:Nat))∧Below w.heap.size w w':=by
 refine (callsIn_wide (n:=9)).1 ?_;refine callsIn_of_wp_marks Tryz.func109 rfl trivial ?_ rfl;simp only [Tryz.ntmps109,List.size_toArray,List.length_cons,List.length_nil,Nat.reduceAdd,Nat.reduceSub,Array.replicate_succ,Array.replicate_zero,List.push_toArray,List.append_toArray,List.nil_append,List.cons_append];have f1:((b:Int)==0)=false:=by simpa using by omega
 have hr:Calls Tryz.prog 141 #[.int .u64 a,.int .u64 b] (w.alloc (.cells #[.int .u64 b] 164)) λe w'=>e=.returned (.func (.func 163) #[] #[.pointer (some ⟨w.heap.size+1,0,none⟩),.pointer (some ⟨w.heap.size+2,0,none⟩)])∧w'=((w.alloc (.cells #[.int .u64 b] 164)).alloc (.cells #[.int .u64 a] 164)).alloc (.cells #[.int .u64 b] 164):=by
  have hH:∀(fn:Fn) (first cap:Array Value) (w:World),(Instr.makeFunc fn first cap).run Tryz.prog w=.ok (.func fn first cap) w:=λ_ _ _ _=>rfl
  go_enter Tryz.func141,Tryz.ntmps141;go_wp2;go_ret;exact ⟨by simp,rfl⟩
 gi_wp2_with (refine ⟨trivial,?_⟩;gi_at_call 141;refine (callsIn_wide.2 hr).mono ?_;rintro e w' ⟨rfl,rfl⟩)
 have h0:(((w.alloc (.cells #[.int .u64 b] 164)).alloc (.cells #[.int .u64 a] 164)).alloc (.cells #[.int .u64 b] 164)).heap[w.heap.size]?=some (.cells #[.int .u64 b] 164 (0,0)):=by
  rw [Below.heap_alloc _ _ _ (by simp;omega),Below.heap_alloc _ _ _ (by simp)];exact heap_alloc_new w _
 have h1:(((w.alloc (.cells #[.int .u64 b] 164)).alloc (.cells #[.int .u64 a] 164)).alloc (.cells #[.int .u64 b] 164)).heap[w.heap.size+1]?=some (.cells #[.int .u64 a] 164 (0,0)):=by
  rw [Below.heap_alloc _ _ _ (by simp)];have:=heap_alloc_new (w.alloc (.cells #[.int .u64 b] 164)) (.cells #[.int .u64 a] 164);simpa using this
 have h2:(((w.alloc (.cells #[.int .u64 b] 164)).alloc (.cells #[.int .u64 a] 164)).alloc (.cells #[.int .u64 b] 164)).heap[w.heap.size+2]?=some (.cells #[.int .u64 b] 164 (0,0)):=by
  have:=heap_alloc_new ((w.alloc (.cells #[.int .u64 b] 164)).alloc (.cells #[.int .u64 a] 164)) (.cells #[.int .u64 b] 164);simpa using this
 have hE:Below w.heap.size w (((w.alloc (.cells #[.int .u64 b] 164)).alloc (.cells #[.int .u64 a] 164)).alloc (.cells #[.int .u64 b] 164)):=(((Below.refl _ w).alloc (qn _) _).alloc (by simp) _).alloc (by simp;omega) _;have hz:(((w.alloc (.cells #[.int .u64 b] 164)).alloc (.cells #[.int .u64 a] 164)).alloc (.cells #[.int .u64 b] 164)).heap.size=w.heap.size+3:=by simp
 clear hr;generalize ((w.alloc (.cells #[.int .u64 b] 164)).alloc (.cells #[.int .u64 a] 164)).alloc (.cells #[.int .u64 b] 164)=W0 at *;refine Eo rfl (by omega) (gf:=163) (lb:=#[.pointer (some ⟨w.heap.size+1,0,none⟩),.pointer (some ⟨w.heap.size+2,0,none⟩)]) rfl trivial (enters_of Tryz.func163 (by kernel_rfl) rfl)
  (encs:=λx:Nat=>#[.int .u64 (x:Nat)]) (λk=>k=w.heap.size+1∨k=w.heap.size+2) (λk hk=>by omega) (S:=λxs=>xs.getLastD b=Nat.gcd a b) ?seq (λ_=>rfl)
  (λpre W=>W.heap[w.heap.size]?=some (.cells #[.int .u64 ((pre.getLastD b:Nat):Int)] 164 (0,0))∧Below w.heap.size w W) ?hI ⟨?hIa1,?hIa2⟩ ⟨h0,hE⟩
  (λx=>{ tmps:=#[.int .u64 a,.int .u64 b,undef,undef,.pointer (some ⟨w.heap.size,0,none⟩),.int .u64 (x:Nat),.int .u64 b,.bool false,undef,.int .u64 b,.int .u64 a,.int .u64 b,.func (.func 163) #[] #[.pointer (some ⟨w.heap.size+1,0,none⟩),.pointer (some ⟨w.heap.size+2,0,none⟩)],.int .u64 (x:Nat),undef,undef],defers:=[] }) ?assign ?body ?done
 case seq =>
  intro l J W hB hJ hY hF;exact RG 8 l _ _ (by omega) a b hC ha hb J hJ (by omega) hY W ((hB.block _ (by omega)).trans h1) ((hB.block _ (by omega)).trans h2) hF
 case hI =>
  refine OwnFrom.and ?_ (ownFrom_below (qn _) (by omega));intro s X Y row hs hg hr;refine (hg.block _ (qs.1 hs).1 (λe=>?_)).trans hs;have:=(hr _ e.symm).1;omega
 case hIa1 =>
  rintro s W k v hk ⟨i1,i2⟩;exact ⟨(Below.heap_setCell _ _ _ _ (by show w.heap.size≠k;omega)).trans i1,i2.setCell (p:=⟨k,0,none⟩) (by show w.heap.size≤k;omega) _⟩
 case hIa2 =>
  rintro s W k ⟨i1,i2⟩;exact ⟨i1,Aj i2 k⟩
 case assign =>
  intro l x W K hK;gi_wp2;exact hK
 case body =>
  rintro l pre x W ⟨i1,i2⟩;have c1:=cell_of_one i1;have c2:=free_of_one i1;gi_wp2;refine ⟨KeepsOthers.setCell _ _ _,λk hk=>Below.heap_setCell _ _ _ _ (by show k≠w.heap.size;omega),?_,i2.setCell (p:=⟨w.heap.size,0,none⟩) (qn _) _⟩;rw [List.getLastD_concat];exact one_setCell i1
 case done =>
  rintro D xs W hD hS ⟨i1,i2⟩ hK;rw [hS] at i1;have I1:=qh i1;have c1:=cell_of_one i1;have c2:=free_of_one i1;clear i1;gi_wp2;have hA:=(KeepsOthers.setCell W ⟨w.heap.size,0,none⟩ (.int .u64 (Nat.gcd a b:Nat))).same D _ hK rfl;refine ⟨by simp,.inl ⟨_,_,rfl,run_takeDeferred hA,?_⟩⟩;have hG:=cell_kept (World.cell?_setCell_same' W ⟨w.heap.size,0,none⟩ (.int .u64 (Nat.gcd a b:Nat)) (by rw [c1];rfl)) (grownBy_putObj' _ D (.deferred none)) (λr e=>by cases e;exact ⟨_,hA,rfl⟩);refine ⟨.int .u64 (Nat.gcd a b:Nat),?_,rfl,(i2.setCell (p:=⟨w.heap.size,0,none⟩) (qn _) _).trans (belowK_b (w:=w) (qn _) _ D _ _ (by omega) hA rfl rfl)⟩;simp [results,Tryz.f109,go_sem,hG]
end
end Go.Proofs.YtbkemlgfdklpfaaGreatDoor
