/- The walk of the statement: part 3. -/
import Derived.Test.YtbkemlgfdklpfaaGreatDoorYLC5p2
import Derived.Test.YtbkemlgfdklpfaaGreatDoorV31
import Derived.Test.YtbkemlgfdklpfaaGreatDoorV40
import Derived.Test.YtbkemlgfdklpfaaGreatDoorV15
import Derived.Test.YtbkemlgfdklpfaaGreatDoorV34
import Derived.Test.YtbkemlgfdklpfaaGreatDoorV41
import Derived.Maps.AppendAt
import Derived.Deep.MidRow
import Derived.BigQuiet
import Derived.BigCall
import Derived.BigGuard
import Derived.Test.YtbkemlgfdklpfaaGreatDoorV4
set_option linter.unusedVariables false
set_option linter.unusedSimpArgs false
set_option maxRecDepth 100000
set_option maxHeartbeats 16000000
namespace Go.Proofs.YtbkemlgfdklpfaaGreatDoor
open Go.Value (int)
open Go.IntKind (i64)
section
open Go Go.RowKit Go.Shelf Go.Deep
theorem WQ(w:World)(B:Nat)(e:TypeId)(size:Nat)(hB:B≤w.heap.size):(w.alloc (.cells #[] e)).ownsRow B e size (.slice (some ⟨w.heap.size,0,none⟩) 0 0) 0 [] :=
 ⟨by simp,Or.inr ⟨w.heap.size,0,#[],rfl,hB,heap_alloc_new w _,qn _,Nat.zero_le _,by simp,by simp⟩⟩
theorem Wy(x y:Sgn)(hx:Bh x.fn x.fd=true)(hy:Bh y.fn y.fd=true)(w:World):Calls Tryz.prog 111 #[.agg (Av x).toArray,.agg (Av y).toArray] w λe w'=>e=.returned (.bool (VU x y))∧Below w.heap.size w w':=by
 have CM:=λV=>VR x.fn x.fd y.fn y.fd hx hy V
 obtain ⟨c,hc⟩:∃c,CQ (x.fn*y.fd) (y.fn*x.fd)=c:=⟨_,rfl⟩;simp only [hc] at CM
 have hb:VU x y=(decide (c<0)||(decide (c=0)&&decide (x.id<y.id)))∧(c=-1∨c=1∨c=0):=by
  unfold VU;rw [← hc];unfold CQ;by_cases h1:x.fn*y.fd<y.fn*x.fd
  ·simp [h1]
  ·by_cases h2:y.fn*x.fd<x.fn*y.fd
   ·simp [h1,h2,show ¬x.fn*y.fd=y.fn*x.fd by omega]
   ·simp [h1,h2,show x.fn*y.fd=y.fn*x.fd by omega]
 rw [hb.1];have hC:=hb.2;clear hb hc hx hy
 cases x with
 | mk s0 s1 s2 s3 s4 s5 s6 s7 s8 s9 s10 s11 s12 s13 =>
 cases y with
 | mk t0 t1 t2 t3 t4 t5 t6 t7 t8 t9 t10 t11 t12 t13 =>
 unfold Av;simp only at CM ⊢;have hD:=qh CM;obtain ⟨V1,e1,g1,b1,z1⟩:=Af w #[int i64 s0,int i64 s1,int i64 s2,int i64 s3,int i64 s4,int i64 s5,int i64 s6,int i64 s7,int i64 s8,int i64 s9,int i64 s10,int i64 s11,int i64 s12,int i64 s13] 54;obtain ⟨X1,hB⟩:∃X,w.heap.size=X:=⟨_,rfl⟩;rw [hB] at g1;obtain ⟨V2,e2,g2,b2,z2⟩:=Af V1 #[int i64 t0,int i64 t1,int i64 t2,int i64 t3,int i64 t4,int i64 t5,int i64 t6,int i64 t7,int i64 t8,int i64 t9,int i64 t10,int i64 t11,int i64 t12,int i64 t13] 54;obtain ⟨X2,hE⟩:∃X,V1.heap.size=X:=⟨_,rfl⟩;rw [hE] at g2;have ga:=Ah b2 g1;have a10:V2.cell? ⟨X1,10,none⟩=some (int i64 s10):=Aa ga 10 rfl;have a11:V2.cell? ⟨X1,11,none⟩=some (int i64 s11):=Aa ga 11 rfl;have d10:V2.cell? ⟨X2,10,none⟩=some (int i64 t10):=Aa g2 10 rfl;have d11:V2.cell? ⟨X2,11,none⟩=some (int i64 t11):=Aa g2 11 rfl;have HA:=qh ga;have HD:=qh g2;have HB:=qh (Ag b1 b2);have hF:=qh hB;clear g1 g2 b1 b2 z1 z2 ga CM;obtain ⟨d,hd⟩:∃d,decide (s0<t0)=d:=⟨_,rfl⟩;have hG:=qh hd;rcases hC with rfl|rfl|rfl
 all_goals cases d
 all_goals
  first
   | (have hA:s0<t0:=of_decide_eq_true hd)
   | (have hA:(s0<t0)=False:=eq_false (of_decide_eq_false hd))
  clear hd;go_enter Tryz.func111,Tryz.ntmps111
  go_wp2_with (go_at_call 117;refine (hD.out _).mono ?_;rintro e V3 ⟨rfl,hb⟩;have a0:V3.cell? ⟨X1,0,none⟩=some (int i64 s0):=Aa (Ah hb HA.out) 0 rfl;have d0:V3.cell? ⟨X2,0,none⟩=some (int i64 t0):=Aa (Ah hb HD.out) 0 rfl;have hH:=qh (Ag HB.out hb);clear hb);go_ret;exact ⟨by rw [hG.out];rfl,by have hq:=hH.out;first|exact hq|(rw [hF.out] at hq;exact hq)⟩
theorem Xb:Tryz.prog.underlying 37=some (.slice (Tryz.prog.elem 37)):=by kernel_rfl
theorem Xg(W:World):(sizeOf (Tryz.prog.elem 37)).run Tryz.prog W=.ok 14 W:=by
 obtain ⟨i0,h0,_,h2,_⟩:=Pn;have e:Tryz.prog.elem 37=54:=by kernel_rfl
 rw [e];simp [sizeOf,typeInfo,h0,h2]
theorem WJ(g n c k:Nat)(hk:k≤n)(hn:n≤c):∃ad:Addr,(0<k→ad=⟨g,0,none⟩)∧∀W,(Instr.slice 37 (.slice (some ⟨g,0,none⟩) n c) none (some (int i64 (k:Int))) none).run Tryz.prog W=.ok (.slice (some ad) k c) W:=by
 refine ⟨if c=0 then ⟨g,0,none⟩ else (⟨g,0,none⟩:Addr).add (0*14),λh1=>by rw [if_neg (by omega)];simp [Addr.add],λW=>?_⟩;rw [run_slice_h W 37 (some ⟨g,0,none⟩) n c Xb .i64 (k:Int) (by omega) (by omega),Xg];have e:((k:Int)).toNat=k:=by omega
 simp only [Result.andThen,sliced,e];by_cases h:c=0
 ·rw [if_pos h,if_pos (by omega)];simp
 ·rw [if_neg h,if_neg (by omega)];simp
theorem WK(g n c k:Nat)(hk:k≤n)(hn:n≤c):∃ad:Addr,(k<n→ad=⟨g,k*14,none⟩)∧∀W,(Instr.slice 37 (.slice (some ⟨g,0,none⟩) n c) (some (int i64 (k:Int))) none none).run Tryz.prog W=.ok (.slice (some ad) (n-k) (c-k)) W:=by
 have e:((k:Int)).toNat=k:=by omega
 refine ⟨if c=k then ⟨g,0,none⟩ else (⟨g,0,none⟩:Addr).add (k*14),λh1=>by rw [if_neg (by omega),Bc,Nat.zero_add],λW=>?_⟩;rw [run_slice_l W 37 (some ⟨g,0,none⟩) n c Xb .i64 (k:Int) (by omega) (by omega),Xg];simp only [Result.andThen,sliced,e];by_cases h:c=k
 ·rw [if_pos h,if_pos (by omega)]
 ·rw [if_neg h,if_neg (by omega)];rfl
theorem WR{W:World}{B n:Nat}{v:Value}{l:List Sgn}(h:W.ownsRow B 54 14 v n (l.flatMap Av))(hv:∃g,v.ownBlock=some g):∃g c,v=.slice (some ⟨g,0,none⟩) n c∧n≤c∧g<W.heap.size∧AtRow Av 14 W g 0 l:=by
 rcases h.2 with ⟨rfl,_⟩|⟨g,cap,cur,rfl,_,hg,hc,_⟩
 ·obtain ⟨g,hg⟩:=hv;cases hg
 ·refine ⟨g,cap,rfl,hc,(qs.1 hg).1,(Ei (enc:=Av) (k:=14) (λ_=>rfl)).2 λj u hj=>?_⟩
  have:=h.cells (g:=g) rfl j u hj;rw [Bc] at this;exact this
theorem Wc(x:Sgn):(Av x).length=14:=rfl
theorem Wd{a b:Option Nat}(h1:∃g,a=some g){n:Nat}(h:b=a∨b=some n):∃g,b=some g:=by
 rcases h with h|h
 ·rw [h];exact h1
 ·exact ⟨n,h⟩
theorem Wl(l:List Sgn):∀u∈l.flatMap Av,u.oneCell'=true:=λu hu=>by
 obtain ⟨s,_,hs⟩:=List.mem_flatMap.1 hu;exact N1 s u hs
theorem Wu{W:World}{g k m:Nat}{l:List Sgn}{ad:Addr}(h:AtRow Av 14 W g 0 l)(hk:k+m≤l.length)(ha:0<m→ad=⟨g,k*14,none⟩):∀j u,(((l.drop k).take m).flatMap Av)[j]?=some u→W.cell? (ad.add j)=some u:=by
 intro j u hj;by_cases hm:m=0
 ·subst hm;simp at hj
 rw [ha (by omega),Bc]
 have hr:AtRow Av 14 W g (k*14) ((l.drop k).take m):=λi x hi q v hq=>by
  have hA:=hi;rw [List.getElem?_take] at hA
  split at hA
  ·rw [List.getElem?_drop] at hA
   have:=h (k+i) x hA q v hq;rw [show k*14+i*14+q=0+(k+i)*14+q by omega];exact this
  ·cases hA
 have:=(Ei (enc:=Av) (k:=14) Wc).1 hr j u hj;exact this
theorem Xd(x:Sgn)(l:List Sgn):∀k,k≤l.length→(∀j y,k≤j→l[j]?=some y→VU x y=true)→∃k',k'≤k∧PutAt x l k'
 | 0,hk,h=>⟨0,qn _,hk,h,λy h0=>absurd h0 (by omega)⟩
 | k+1,hk,h=>by
  obtain ⟨y,hy⟩:∃y,l[k]?=some y:=⟨_,qg (by omega)⟩
  cases hb:VU x y with
  | true =>
   obtain ⟨k',h1,h2⟩:=Xd x l k (by omega) λj z hj hz=>by
    by_cases e:j=k
    ·subst e;rw [hy] at hz;cases hz;exact hb
    ·exact h j z (by omega) hz
   exact ⟨k',by omega,h2⟩
  | false=>exact ⟨k+1,qn _,hk,h,λz _ hz=>by rw [Nat.add_sub_cancel,hy] at hz;cases hz;exact hb⟩
theorem Xf(l:List Sgn)(x:Sgn)(g n c:Nat)(w:World)(hl:l.length=n)(hn:n≤100000)(hc:n≤c)(hA:AtRow Av 14 w g 0 l)(hg:g<w.heap.size)(hx:Bh x.fn x.fd=true)(hr:∀y∈l,Bh y.fn y.fd=true) :
  Calls Tryz.prog 78 #[.slice (some ⟨g,0,none⟩) n c,.agg (Av x).toArray] w λe w'=>Below w.heap.size w w'∧∃k g' c',PutAt x l k∧e=.returned (.slice (some ⟨g',0,none⟩) (n+1) c')∧n+1≤c'∧g'<w'.heap.size∧AtRow Av 14 w' g' 0 (VV x l k):=by
 obtain ⟨kE,_,hP⟩:=Xd x l n (by omega) (λj y hj hy=>by have:=(ql.1 hy).1;omega);have hN:=hP.le;rw [hl] at hN;obtain ⟨a1,hh,Hi⟩:=WJ g n c kE hN hc;obtain ⟨a2,hi,Hj⟩:=WK g n c kE hN hc;have HL:=qh hl;have HA:=qh (hA.below (Below.refl w.heap.size w) hg);have HP:=qh hP;have HG:=qh hg;have hk:=qh (λ(y:Sgn) (hy:y∈l) (V:World)=>Wy x y hx (hr y hy) V);have hH:=qh (all_oneCell_toArray (N1 x));have HQ:=qh hh;have HR:=qh hi;have hF:(l.take kE).flatMap Av++Av x++(l.drop kE).flatMap Av=(VV x l kE).flatMap Av:=by unfold VV;simp
 have HS:=qh hF;clear hl hA hr hx hP hh hi hF hg
 cases x with
 | mk s0 s1 s2 s3 s4 s5 s6 s7 s8 s9 s10 s11 s12 s13 =>
 unfold Av at hk hH ⊢;have hT:Hid ((l.take kE).flatMap Av++[int i64 s0,int i64 s1,int i64 s2,int i64 s3,int i64 s4,int i64 s5,int i64 s6,int i64 s7,int i64 s8,int i64 s9,int i64 s10,int i64 s11,int i64 s12,int i64 s13]++(l.drop kE).flatMap Av=(VV ⟨s0,s1,s2,s3,s4,s5,s6,s7,s8,s9,s10,s11,s12,s13⟩ l kE).flatMap Av):=qh HS.out;obtain ⟨V1,e1,g1,b1,z1⟩:=Af w #[int i64 s0,int i64 s1,int i64 s2,int i64 s3,int i64 s4,int i64 s5,int i64 s6,int i64 s7,int i64 s8,int i64 s9,int i64 s10,int i64 s11,int i64 s12,int i64 s13] 54;obtain ⟨X,hX⟩:∃X,w.heap.size=X:=⟨_,rfl⟩;rw [hX] at g1;have hm:=qh g1;have hQ:=qh b1;have HT:=qh hX;clear g1 b1 z1;go_enter Tryz.func78,Tryz.ntmps78;go_wp2_with fail;go_loopw [5] (λkv wr=>∃k:Nat,kv=int i64 k∧kE≤k∧k≤n∧Hid (Below V1.heap.size V1 wr)) (λkv _=>(intOf kv).toNat)
 case atStart=>exact ⟨n,rfl,hN,qn _,qh (Below.refl _ _)⟩
 case round =>
  obtain ⟨k,rfl,Hk,HU,hB⟩:=hrel;have ho:Hid (wr.drew.rangeAt X 0 [int i64 s0,int i64 s1,int i64 s2,int i64 s3,int i64 s4,int i64 s5,int i64 s6,int i64 s7,int i64 s8,int i64 s9,int i64 s10,int i64 s11,int i64 s12,int i64 s13]):=qh (λu v hv=>by rw [Nat.zero_add];exact Ad (Below.refl _ _).drew (Aa (Ah hB.out hm.out) u (by simpa using hv)));have HV:k≠0∨k=0:=by omega
  rcases HV with h0|h0
  obtain ⟨y,hy⟩:∃y,l[k-1]?=some y:=⟨_,qg (by rw [HL.out];omega)⟩;have hU:(0:Int)<(k:Int):=by omega
  have HW:0<k:=by omega
  have HX:IntKind.i64.wrap ((k:Int)-1)=((k-1:Nat):Int):=by rw [IntWalk.i64_in _ (by omega)];omega
  have Hl:((k-1:Nat):Int)<(n:Int):=by omega
  have CB:=hk.out y (List.mem_of_getElem? hy)
  have hp:VU ⟨s0,s1,s2,s3,s4,s5,s6,s7,s8,s9,s10,s11,s12,s13⟩ y=decide (kE<k):=by
   by_cases e:kE<k
   ·rw [decide_eq_true e];exact HP.out.aft (k-1) y (by omega) hy
   ·obtain rfl:k=kE:=by omega
    rw [decide_eq_false e];exact HP.out.fore y (by omega) hy
  have hV:wr.rangeAt g ((k-1)*14) (Av y):=λu v hv=>by
   have:=HA.out (k-1) y hy u v hv;rw [Nat.zero_add] at this;exact Ad (hQ.out.trans (hB.out.mono hQ.out.size)) this
  obtain ⟨t0,t1,t2,t3,t4,t5,t6,t7,t8,t9,t10,t11,t12,t13⟩:=y
  (try unfold Av at CB)
  unfold Av at hV;simp only [hp] at CB;have hC:=qh CB;have HY:Hid (wr.drew.rangeAt g ((k-1)*14) [int i64 t0,int i64 t1,int i64 t2,int i64 t3,int i64 t4,int i64 t5,int i64 t6,int i64 t7,int i64 t8,int i64 t9,int i64 t10,int i64 t11,int i64 t12,int i64 t13]):=qh (λu v hv=>Ad (Below.refl _ _).drew (hV u v hv));have hs:((k-1:Nat):Int)=(k:Int)-1:=by omega
  have hW:=qh hs;generalize k-1=m at *;clear CB hV hy hp hs;go_wp2_with fail;refine AM (λw2=>w2=wr.drew) 9 (by kernel_rfl) (by kernel_rfl) rfl ?_;intro w2 hS;subst hS;simp only [List.take_succ_cons,List.take_zero,List.drop_succ_cons,List.drop_zero]
  iterate 3 still_step
  refine AF (by kernel_rfl) 54 _ rfl X 0 rfl [int i64 s0,int i64 s1,int i64 s2,int i64 s3,int i64 s4,int i64 s5,int i64 s6,int i64 s7,int i64 s8,int i64 s9,int i64 s10,int i64 s11,int i64 s12,int i64 s13] _ ho.out Tryz.underlying54 rfl (by kernel_rfl) ?_
  try simp only [Act.put,qz]
  iterate 4 still_step
  refine AF (by kernel_rfl) 54 _ rfl g (m*14) rfl [int i64 t0,int i64 t1,int i64 t2,int i64 t3,int i64 t4,int i64 t5,int i64 t6,int i64 t7,int i64 t8,int i64 t9,int i64 t10,int i64 t11,int i64 t12,int i64 t13] _ HY.out Tryz.underlying54 rfl (by kernel_rfl) ?_
  try simp only [Act.put,qz]
  refine wpStill_nil ?_;by_cases hI:kE<k
  ·simp only [hI,decide_true] at hC
   go_wp2_with (go_at_call 111;refine (hC.out _).mono ?_;rintro e V3 ⟨rfl,hJ⟩;have hK:=qh hJ;clear hJ);go_roundw
   case rel=>exact ⟨m,rfl,by have:=hW.out;omega,by have:=hW.out;omega,qh (hB.out.trans ((Ag (Below.refl _ _).drew hK.out).mono hB.out.size))⟩
   case measure=>simp [intOf];have:=hW.out;omega
  obtain rfl:k=kE:=by omega
  simp only [hI,decide_false] at hC
  go_wp2_with (first
   | (go_at_call 111;refine (hC.out _).mono ?_;rintro e V3 ⟨rfl,hJ⟩;have hK:=qh (Ag (Below.refl _ _).drew hJ);clear hJ)
   | (at_builtin;generalize hG:@wpList=gg))
  rotate_left
  obtain rfl:k=kE:=by omega
  have hU:(0<k)=False:=eq_false (by omega);have H0:=qh h0;clear h0;go_wp2_with fail;go_quiet (fail);generalize ht:wr.drewN _=V3;have hK:Hid (Below wr.heap.size wr V3):=qh (by rw [← ht];exact Aj (Below.refl _ _) _);clear ht
  go_wp2_with (at_builtin;generalize hG:@wpList=gg)
  all_goals
   have hY:Below w.heap.size w wr:=hQ.out.trans (hB.out.mono hQ.out.size);have hD:Below w.heap.size w V3:=hY.trans (hK.out.mono hY.size);have hL:Below V1.heap.size V1 V3:=hB.out.trans (hK.out.mono hB.out.size);obtain ⟨W4,xW4,bW4,sW4⟩:∃W,V3.alloc (.cells #[] 54)=W∧Below V3.heap.size V3 W∧W.heap.size=V3.heap.size+1:=⟨_,rfl,(Below.refl _ _).alloc (qn _) _,by simp⟩;have hO:W4.ownsRow V3.heap.size 54 14 (.slice (some ⟨V3.heap.size,0,none⟩) 0 0) 0 []:=by rw [← xW4];exact WQ V3 _ 54 14 (qn _)
   have hu:AtRow Av 14 W4 g 0 l:=HA.out.below (hD.trans (bW4.mono hD.size)) HG.out;obtain ⟨i0,hw,hz,h1,h2⟩:=Pn;have HI:=qh (And.intro hw (And.intro hz (And.intro h1 h2)));have HO:=qh hO;have HZ:=qh hu;have Ha:=qh bW4;have h3:=qh sW4;have hM:=qh hL;have hE:=qh hD;clear hw hz h1 h2 hO hu bW4 sW4 hL hD hY ho;subst hG
   try rw [xW4]
   refine N5 rfl _ _ 37 rfl V3.heap.size 54 i0 _ 14 112 Tryz.underlying37 HI.out.1 HI.out.2.1 HI.out.2.2.1 HI.out.2.2.2 rfl (by decide) _ 0 [] rfl HO.out (some a1) k c ((l.take k).flatMap Av) rfl (by rw [Fh Wc,List.length_take,HL.out,Nat.min_eq_left HU]) (λh=>by cases h) (λad e j u hj=>by obtain rfl:=Option.some.inj e;exact Wu (k:=0) (m:=k) (ad:=a1) HZ.out (by rw [HL.out];omega) (λh=>by rw [HQ.out h,Nat.zero_mul]) j u (by simpa using hj)) (Wl _) (by unfold maxLen;omega) (by omega) (by rw [h3.out];omega) ?_;intro v5 W5 hZ h4 h5;rw [Nat.zero_add,List.nil_append] at hZ;have hR:Below V3.heap.size V3 W5:=Ha.out.grown h4 (by rw [h3.out];omega) (λq hq=>by cases hq;exact qn _);have h6:=Ah (hM.out.trans (hR.mono hM.out.size)) hm.out;obtain ⟨W6,xW6,bW6,sW6,h7⟩:=Qh W5 #[int i64 s0,int i64 s1,int i64 s2,int i64 s3,int i64 s4,int i64 s5,int i64 s6,int i64 s7,int i64 s8,int i64 s9,int i64 s10,int i64 s11,int i64 s12,int i64 s13] hH.out;have h8:=B9 hZ bW6;have h9:Below V3.heap.size V3 W6:=hR.trans (bW6.mono hR.size);have Hb:=qh h6;have HB:=qh h8;have ha:=qh h9;have HC:=qh h7;have Hc:=qh h5;clear h6 h8 h9 h7 h5 hZ h4 hR bW6 sW6;have st0:True:=trivial
   go_wp2_with (first
    | (have q:=st0;clear q;refine wpList_load_row rfl 54 _ rfl X rfl 54 #[int i64 s0,int i64 s1,int i64 s2,int i64 s3,int i64 s4,int i64 s5,int i64 s6,int i64 s7,int i64 s8,int i64 s9,int i64 s10,int i64 s11,int i64 s12,int i64 s13] (0,0) _ Hb.out Tryz.underlying54 rfl (by kernel_rfl) ?_;simp only [Act.put,qD,qE,qF];clear st0;have st1:True:=trivial)
    | (have q:=st1;clear q;at_builtin;generalize hG:@wpList=gg))
   subst hG
   try rw [xW6]
   refine N5 rfl _ _ 37 rfl V3.heap.size 54 i0 _ 14 112 Tryz.underlying37 HI.out.1 HI.out.2.1 HI.out.2.2.1 HI.out.2.2.2 rfl (by decide) _ k ((l.take k).flatMap Av) rfl HB.out (some ⟨W5.heap.size,0,none⟩) 1 1 [int i64 s0,int i64 s1,int i64 s2,int i64 s3,int i64 s4,int i64 s5,int i64 s6,int i64 s7,int i64 s8,int i64 s9,int i64 s10,int i64 s11,int i64 s12,int i64 s13] rfl rfl (λh=>by cases h) (λad e j u hj=>HC.out.1 ad e j u hj) HC.out.2 (by unfold maxLen;omega) (by omega) ha.out.size ?_;intro v7 W7 HD HE HF;have hb:Below V3.heap.size V3 W7:=ha.out.grown HE ha.out.size λq hq=>(HB.out.lt q hq).1
   have HH:AtRow Av 14 W7 g 0 l:=HA.out.below (hE.out.trans (hb.mono hE.out.size)) HG.out;have HJ:=qh HD;have hd:=qh hb;have Hd:=qh HH;have He:=qh HF;clear HD hb HH HF HE
   go_wp2_with (at_builtin;generalize hG:@wpList=gg);subst hG;refine N5 rfl _ _ 37 rfl V3.heap.size 54 i0 _ 14 112 Tryz.underlying37 HI.out.1 HI.out.2.1 HI.out.2.2.1 HI.out.2.2.2 rfl (by decide) v7 (k+1) ((l.take k).flatMap Av++([int i64 s0,int i64 s1,int i64 s2,int i64 s3,int i64 s4,int i64 s5,int i64 s6,int i64 s7,int i64 s8,int i64 s9,int i64 s10,int i64 s11,int i64 s12,int i64 s13]:List Value)) rfl HJ.out (some a2) (n-k) (c-k) ((l.drop k).flatMap Av) rfl (by rw [Fh Wc,List.length_drop,HL.out]) (λh=>by cases h) (λad e j u hj=>by obtain rfl:=Option.some.inj e;exact Wu (k:=k) (m:=n-k) (ad:=a2) Hd.out (by rw [HL.out];omega) (λh=>HR.out (by omega)) j u (by rw [List.take_of_length_le (by rw [List.length_drop,HL.out];exact qn _)];exact hj)) (Wl _) (by unfold maxLen;omega) (by omega) hd.out.size ?_;intro v9 W9 he HK HM;have hf:=hT.out;rw [hf,show k+1+(n-k)=n+1 by omega] at he;obtain ⟨g',c',rfl,q1,q2,q3⟩:=WR he (Wd (Wd (Wd ⟨_,rfl⟩ Hc.out) He.out) HM);have HN:Below V3.heap.size V3 W9:=hd.out.grown HK hd.out.size λq hq=>(HJ.out.lt q hq).1
   have Hf:=qh (hE.out.trans (HN.mono hE.out.size));have Hg:=qh q2;have Hh:=qh q3;clear he HK HM HN hf q2 q3;go_wp2_with fail;go_ret;exact ⟨by have hq:=Hf.out;first|exact hq|(rw [HT.out] at hq;exact hq),k,g',c',HP.out,rfl,q1,Hg.out,Hh.out⟩
theorem Xm(wd dp ta tb tc bars:Int)(aR aT aP aX aS:Option Addr)(cR cT cP cX cS:Nat)(rs:List Rol)(ts:List Tmp)(ps:List Pau)(xs:List Con)(ss:List Sgn)(r b:Int)(w:World)(hE:EnvK w)(hR:IsRow CT 4 w (.slice aR rs.length cR) rs)(hT:IsRow BS 3 w (.slice aT ts.length cT) ts)(hP:IsRow Cx 4 w (.slice aP ps.length cP) ps)(hX:IsRow Cw 4 w (.slice aX xs.length cX) xs)(hS:IsRow Av 14 w (.slice aS ss.length cS) ss)(cc:Int)(hw:Dc ⟨wd,dp,ta,tb,tc,rs,⟨bars,ts,ps,xs⟩,ss⟩=cc)(hc:cc≠0) :
  Calls Tryz.prog 15 #[.agg #[int i64 wd,int i64 dp,int i64 ta,int i64 tb,int i64 tc,.slice aR rs.length cR,int i64 bars,.slice aT ts.length cT,.slice aP ps.length cP,.slice aX xs.length cX,.slice aS ss.length cS],int i64 r,int i64 b] w λe w'=>e=.returned (.tuple #[.slice none 0 0,int i64 cc])∧Below w.heap.size w w':=by
 obtain ⟨V1,e1,g1,b1,s1⟩:=Af w #[int i64 wd,int i64 dp,int i64 ta,int i64 tb,int i64 tc,.slice aR rs.length cR,int i64 bars,.slice aT ts.length cT,.slice aP ps.length cP,.slice aX xs.length cX,.slice aS ss.length cS] 39;have CK:=DN wd dp ta tb tc bars aR aT aP aX aS cR cT cP cX cS rs ts ps xs ss V1 (hE.below b1) (hR.below b1 (qn _)) (hT.below b1 (qn _)) (hP.below b1 (qn _)) (hX.below b1 (qn _)) (hS.below b1 (qn _));rw [hw] at CK;have hD:=qh CK;have hF:=qh b1;have hG:=qh g1;have hH:(cc==0)=false:=by simpa using hc
 clear b1 s1 CK hE hR hT hP hX hS hw;generalize rs.length=nR at *;generalize ts.length=nT at *;generalize ps.length=nP at *;generalize xs.length=nX at *;generalize ss.length=nS at *;obtain ⟨BX,hA⟩:∃X,w.heap.size=X:=⟨_,rfl⟩;rw [hA] at g1;have z0:V1.cell? ⟨BX,0,none⟩=some (int i64 wd):=Aa g1 0 rfl;have z1:V1.cell? ⟨BX,1,none⟩=some (int i64 dp):=Aa g1 1 rfl;have z2:V1.cell? ⟨BX,2,none⟩=some (int i64 ta):=Aa g1 2 rfl;have z3:V1.cell? ⟨BX,3,none⟩=some (int i64 tb):=Aa g1 3 rfl;have z4:V1.cell? ⟨BX,4,none⟩=some (int i64 tc):=Aa g1 4 rfl;have z5:V1.cell? ⟨BX,5,none⟩=some (.slice aR nR cR):=Aa g1 5 rfl;have z6:V1.cell? ⟨BX,6,none⟩=some (int i64 bars):=Aa g1 6 rfl;have z7:V1.cell? ⟨BX,7,none⟩=some (.slice aT nT cT):=Aa g1 7 rfl;have z8:V1.cell? ⟨BX,8,none⟩=some (.slice aP nP cP):=Aa g1 8 rfl;have z9:V1.cell? ⟨BX,9,none⟩=some (.slice aX nX cX):=Aa g1 9 rfl;have z10:V1.cell? ⟨BX,10,none⟩=some (.slice aS nS cS):=Aa g1 10 rfl;clear g1;go_enter Tryz.func15,Tryz.ntmps15
 go_wp2_with (go_at_call 17;refine hD.out.mono ?_;rintro e V2 ⟨rfl,hB⟩;have hC:=qh (Ag hF.out hB);clear hB);go_ret2;exact ⟨rfl,by first|exact hC.out|(have h:=hC.out;rw [hA] at h;exact h)⟩
theorem Xn(wd dp ta tb tc bars:Int)(aR aT aP aX aS:Option Addr)(cR cT cP cX cS:Nat)(rs:List Rol)(ts:List Tmp)(ps:List Pau)(xs:List Con)(ss:List Sgn)(r b:Int)(w:World)(hE:EnvK w)(hR:IsRow CT 4 w (.slice aR rs.length cR) rs)(hT:IsRow BS 3 w (.slice aT ts.length cT) ts)(hP:IsRow Cx 4 w (.slice aP ps.length cP) ps)(hX:IsRow Cw 4 w (.slice aX xs.length cX) xs)(hS:IsRow Av 14 w (.slice aS ss.length cS) ss)(hw:Dc ⟨wd,dp,ta,tb,tc,rs,⟨bars,ts,ps,xs⟩,ss⟩=0)(hr:inB r 0 ((rs.length:Int)-1)=true)(hb:inB b 0 (bars-1)=false)(hH:0≤bars∧bars≤1000000)(hI:rs.length≤1000000) :
  Calls Tryz.prog 15 #[.agg #[int i64 wd,int i64 dp,int i64 ta,int i64 tb,int i64 tc,.slice aR rs.length cR,int i64 bars,.slice aT ts.length cT,.slice aP ps.length cP,.slice aX xs.length cX,.slice aS ss.length cS],int i64 r,int i64 b] w λe w'=>e=.returned (.tuple #[.slice none 0 0,int i64 1])∧Below w.heap.size w w':=by
 obtain ⟨V1,e1,g1,b1,s1⟩:=Af w #[int i64 wd,int i64 dp,int i64 ta,int i64 tb,int i64 tc,.slice aR rs.length cR,int i64 bars,.slice aT ts.length cT,.slice aP ps.length cP,.slice aX xs.length cX,.slice aS ss.length cS] 39;have CK:=DN wd dp ta tb tc bars aR aT aP aX aS cR cT cP cX cS rs ts ps xs ss V1 (hE.below b1) (hR.below b1 (qn _)) (hT.below b1 (qn _)) (hP.below b1 (qn _)) (hX.below b1 (qn _)) (hS.below b1 (qn _));rw [hw] at CK;have hF:=qh CK;have hG:=qh b1;have hJ:IntKind.i64.wrap ((rs.length:Int)-1)=(rs.length:Int)-1:=IntWalk.i64_in _ (by omega);have hK:IntKind.i64.wrap (bars-1)=bars-1:=IntWalk.i64_in _ (by omega);clear b1 s1 CK hE hR hT hP hX hS hw;generalize rs.length=nR at *;generalize ts.length=nT at *;generalize ps.length=nP at *;generalize xs.length=nX at *;generalize ss.length=nS at *;obtain ⟨BX,hB⟩:∃X,w.heap.size=X:=⟨_,rfl⟩;rw [hB] at g1;have z0:V1.cell? ⟨BX,0,none⟩=some (int i64 wd):=Aa g1 0 rfl;have z1:V1.cell? ⟨BX,1,none⟩=some (int i64 dp):=Aa g1 1 rfl;have z2:V1.cell? ⟨BX,2,none⟩=some (int i64 ta):=Aa g1 2 rfl;have z3:V1.cell? ⟨BX,3,none⟩=some (int i64 tb):=Aa g1 3 rfl;have z4:V1.cell? ⟨BX,4,none⟩=some (int i64 tc):=Aa g1 4 rfl;have z5:V1.cell? ⟨BX,5,none⟩=some (.slice aR nR cR):=Aa g1 5 rfl;have z6:V1.cell? ⟨BX,6,none⟩=some (int i64 bars):=Aa g1 6 rfl;have z7:V1.cell? ⟨BX,7,none⟩=some (.slice aT nT cT):=Aa g1 7 rfl;have z8:V1.cell? ⟨BX,8,none⟩=some (.slice aP nP cP):=Aa g1 8 rfl;have z9:V1.cell? ⟨BX,9,none⟩=some (.slice aX nX cX):=Aa g1 9 rfl;have z10:V1.cell? ⟨BX,10,none⟩=some (.slice aS nS cS):=Aa g1 10 rfl;have hC:=qh g1;clear g1;go_enter Tryz.func15,Tryz.ntmps15
 go_wp2_with (first
  | (go_at_call 17;refine hF.out.mono ?_;rintro e V2 ⟨rfl,hA⟩;have y5:V2.cell? ⟨BX,5,none⟩=some (.slice aR nR cR):=Aa (Ah hA hC.out) 5 rfl;have y6:V2.cell? ⟨BX,6,none⟩=some (int i64 bars):=Aa (Ah hA hC.out) 6 rfl;have hD:=qh (Ag hG.out hA);clear hA z0 z1 z2 z3 z4 z5 z6 z7 z8 z9 z10)
  | (go_at_call 44;refine (AQ _ _ _ _).mono ?_;rintro e w' ⟨rfl,rfl⟩;simp only [hr,hb]))
 go_ret2;exact ⟨rfl,by first|exact hD.out|(have h:=hD.out;rw [hB] at h;exact h)⟩
def VH(k:Wrk)(r b:Int):Int:=if Dc k=0 then (if inB r 0 ((k.roles.length:Int)-1)&&inB b 0 (k.clock.bars-1) then 0 else 1) else Dc k
def OfU(k:Wrk)(r b:Int)(w:World)(e:Ending)(w':World):Prop:=Below w.heap.size w w'∧∃(ao:Option Addr) (c:Nat) (l:List Sgn),e=.returned (.tuple #[.slice ao l.length c,int i64 (VH k r b)])∧IsRow Av 14 w' (.slice ao l.length c) l∧(∀x,x∈l↔(VH k r b=0∧x∈ofL r b k.signs))∧l.Pairwise Sz
theorem VL{k:Wrk}{r b:Int}{w w':World}{e:Ending}(h:e=.returned (.tuple #[.slice none 0 0,int i64 (VH k r b)]))(hb:Below w.heap.size w w')(hc:VH k r b≠0):OfU k r b w e w' :=
 ⟨hb,none,0,[],h,⟨none,0,rfl,Nat.zero_le _,Or.inl rfl⟩,λx=>⟨λh=>(by cases h),λh=>absurd h.1 hc⟩,List.Pairwise.nil⟩
theorem Xo(wd dp ta tb tc bars:Int)(aR aT aP aX aS:Option Addr)(cR cT cP cX cS:Nat)(rs:List Rol)(ts:List Tmp)(ps:List Pau)(xs:List Con)(ss:List Sgn)(r b:Int)(w:World)(hE:EnvK w)(hR:IsRow CT 4 w (.slice aR rs.length cR) rs)(hT:IsRow BS 3 w (.slice aT ts.length cT) ts)(hP:IsRow Cx 4 w (.slice aP ps.length cP) ps)(hX:IsRow Cw 4 w (.slice aX xs.length cX) xs)(hS:IsRow Av 14 w (.slice aS ss.length cS) ss) :
  Calls Tryz.prog 15 #[.agg #[int i64 wd,int i64 dp,int i64 ta,int i64 tb,int i64 tc,.slice aR rs.length cR,int i64 bars,.slice aT ts.length cT,.slice aP ps.length cP,.slice aX xs.length cX,.slice aS ss.length cS],int i64 r,int i64 b] w (OfU ⟨wd,dp,ta,tb,tc,rs,⟨bars,ts,ps,xs⟩,ss⟩ r b w):=by
 by_cases hw:Dc ⟨wd,dp,ta,tb,tc,rs,⟨bars,ts,ps,xs⟩,ss⟩=0
 ·obtain ⟨hl,hc,_⟩:=Jo hw
  have hA:=Fc hc
  have hB:rs.length≤64∧ss.length≤4096:=by
   unfold F8 at hl;simp only [Bool.and_eq_true,decide_eq_true_eq] at hl;exact hl
  cases hr:inB r 0 ((rs.length:Int)-1) with
  | false =>
   have he:VH ⟨wd,dp,ta,tb,tc,rs,⟨bars,ts,ps,xs⟩,ss⟩ r b=1:=by unfold VH;rw [if_pos hw,hr];rfl
   refine (Rn wd dp ta tb tc bars aR aT aP aX aS cR cT cP cX cS rs ts ps xs ss r b w hE hR hT hP hX hS hw hr (by omega)).mono ?_;rintro e w' ⟨h1,h2⟩;exact VL (by rw [he];exact h1) h2 (by rw [he];decide)
  | true =>
   cases hb:inB b 0 (bars-1) with
   | false =>
    have he:VH ⟨wd,dp,ta,tb,tc,rs,⟨bars,ts,ps,xs⟩,ss⟩ r b=1:=by unfold VH;rw [if_pos hw,hr,hb];rfl
    refine (Xn wd dp ta tb tc bars aR aT aP aX aS cR cT cP cX cS rs ts ps xs ss r b w hE hR hT hP hX hS hw hr hb (by omega) (by omega)).mono ?_;rintro e w' ⟨h1,h2⟩;exact VL (by rw [he];exact h1) h2 (by rw [he];decide)
   | true =>
    have he:VH ⟨wd,dp,ta,tb,tc,rs,⟨bars,ts,ps,xs⟩,ss⟩ r b=0:=by unfold VH;rw [if_pos hw,hr,hb];rfl
    refine (Ts wd dp ta tb tc bars aR aT aP aX aS cR cT cP cX cS rs ts ps xs ss r b w hE hR hT hP hX hS hw hr hb).mono ?_;rintro e w' ⟨h1,ao,c,l,rfl,h3,_,h5,h6⟩;exact ⟨h1,ao,c,l,by rw [he],h3,λx=>by rw [h5,he];exact ⟨λh=>⟨rfl,h⟩,λh=>h.2⟩,h6⟩
 ·have he:VH ⟨wd,dp,ta,tb,tc,rs,⟨bars,ts,ps,xs⟩,ss⟩ r b=Dc ⟨wd,dp,ta,tb,tc,rs,⟨bars,ts,ps,xs⟩,ss⟩:=by unfold VH;rw [if_neg hw]
  refine (Xm wd dp ta tb tc bars aR aT aP aX aS cR cT cP cX cS rs ts ps xs ss r b w hE hR hT hP hX hS _ rfl hw).mono ?_;rintro e w' ⟨h1,h2⟩;exact VL (by rw [he];exact h1) h2 (by rw [he];exact hw)
theorem Xc{ss:List Sgn}{r b:Int}{i:Nat}{x:Sgn}(h:ss[i]?=some x):ofL r b (ss.take (i+1))=ofL r b (ss.take i)++(if x.role=r∧x.bar=b then [x] else []):=by
 unfold ofL;rw [List.take_add_one,h,List.filter_append]
 congr 1
 by_cases h1:x.role=r<;>by_cases h2:x.bar=b<;>simp [h1,h2]
theorem Xh{ss:List Sgn}{r b:Int}{i:Nat}{x y:Sgn}(hp:ss.Pairwise (λx y=>x.id<y.id))(h:ss[i]?=some x)(hy:y∈ofL r b (ss.take i)):y∈ss∧y.id<x.id:=by
 have hm:=(List.mem_filter.1 hy).1;refine ⟨List.mem_of_mem_take hm,?_⟩;obtain ⟨j,hj⟩:=List.getElem?_of_mem hm
 have hA:j<i:=by
  have:=(ql.1 hj).1;rw [List.length_take] at this;omega
 rw [List.getElem?_take_of_lt hA] at hj;obtain ⟨h1,h2⟩:=ql.1 hj;obtain ⟨h3,h4⟩:=ql.1 h;have:=List.pairwise_iff_getElem.1 hp j i h1 h3 hA
 rwa [h2,h4] at this
structure SgL(L:List Sgn)(W0:World)(g k c:Nat)(l:List Sgn)(W:World):Prop where
 base:Below W0.heap.size W0 W
 len:l.length=k
 row:AtRow Av 14 W g 0 l
 lt:g<W.heap.size
 ok:PutOk L l
theorem WG(wd dp ta tb tc bars:Int)(aR aT aP aX aS:Option Addr)(cR cT cP cX cS nR nT nP nX:Nat)(ss:List Sgn)(r b:Int)(w:World)(hS:IsRow Av 14 w (.slice aS ss.length cS) ss)(hp:ss.Pairwise (λx y=>x.id<y.id))(hr:∀s∈ss,Bh s.fn s.fd=true)(hl:ss.length≤4096) :
  Calls Tryz.prog 48 #[.agg #[int i64 wd,int i64 dp,int i64 ta,int i64 tb,int i64 tc,.slice aR nR cR,int i64 bars,.slice aT nT cT,.slice aP nP cP,.slice aX nX cX,.slice aS ss.length cS],int i64 r,int i64 b] w λe w'=>Below w.heap.size w w'∧∃(g c:Nat) (l:List Sgn),e=.returned (.slice (some ⟨g,0,none⟩) l.length c)∧IsRow Av 14 w' (.slice (some ⟨g,0,none⟩) l.length c) l∧PutOk (ofL r b ss) l:=by
 have HS:=qh hS;have HP:=qh hp;have HR:=qh hr;generalize hJ:ss.length=nS at *;have hK:=qh hJ;clear hS hp hr hJ;obtain ⟨V1,e1,g1,b1,z1⟩:=Af w #[int i64 wd,int i64 dp,int i64 ta,int i64 tb,int i64 tc,.slice aR nR cR,int i64 bars,.slice aT nT cT,.slice aP nP cP,.slice aX nX cX,.slice aS nS cS] 39;obtain ⟨X,hX⟩:∃X,w.heap.size=X:=⟨_,rfl⟩;rw [hX] at g1;obtain ⟨V2,e2,b2,z2⟩:∃W,V1.alloc (.cells #[] 54)=W∧Below V1.heap.size V1 W∧W.heap.size=V1.heap.size+1:=⟨_,rfl,(Below.refl _ _).alloc (qn _) _,by simp⟩;have HX:=qh (Ah b2 g1);have HB:=qh (Ag b1 b2);have hU:=qh hX;have hV:V1.heap.size<V2.heap.size:=by omega
 clear g1 b1 z1 b2 z2;go_enter Tryz.func48,Tryz.ntmps48;go_wp2_with fail;go_loopw [7,8] (λlv iv wr=>∃(i k c g:Nat) (l:List Sgn),lv=.slice (some ⟨g,0,none⟩) k c∧iv=int i64 i∧i≤nS∧k≤i∧k≤c∧Hid (SgL (ofL r b (ss.take i)) V2 g k c l wr)) (λ_ iv _=>nS+1-(intOf iv).toNat)
 case atStart=>exact ⟨0,0,0,_,[],rfl,rfl,Nat.zero_le _,qn _,qn _,qh ⟨Below.refl _ _,rfl,λi x h=>by simp at h,hV,λx=>by simp [ofL],List.Pairwise.nil,by simp [ofL]⟩⟩
 case round =>
  obtain ⟨i,k,c,g,l,rfl,rfl,hd,he,hD,hL⟩:=hrel;have hE:=Ah hL.out.base HX.out;have z10:wr.cell? ⟨X,10,none⟩=some (.slice aS nS cS):=Aa hE 10 rfl;by_cases hi:i<nS
  ·have hW:((i:Nat):Int)<(nS:Int):=by omega
   obtain ⟨x,hx⟩:∃x,ss[i]?=some x:=⟨_,qg (by rw [hK.out];exact hi)⟩;obtain ⟨gb,go,rfl,hA,_⟩:=HS.out.block hx;have hM:Below w.heap.size w wr:=HB.out.trans (hL.out.base.mono HB.out.size);have hB:wr.rangeAt gb (go+i*14) (Av x):=λu v hv=>Ad hM (hA i x hx u v hv)
   have hF:=Xc (r:=r) (b:=b) hx;have hN:=HR.out x (List.mem_of_getElem? hx);have hO:=λy hy=>Xh (y:=y) (r:=r) (b:=b) HP.out hx hy
   cases x with
   | mk s0 s1 s2 s3 s4 s5 s6 s7 s8 s9 s10 s11 s12 s13 =>
   have c1:wr.cell? ⟨gb,go+i*14+1,none⟩=some (int i64 s1):=hB 1 _ rfl;have c2:wr.cell? ⟨gb,go+i*14+2,none⟩=some (int i64 s2):=hB 2 _ rfl;have hG:Hid (wr.rangeAt gb (go+i*14) [int i64 s0,int i64 s1,int i64 s2,int i64 s3,int i64 s4,int i64 s5,int i64 s6,int i64 s7,int i64 s8,int i64 s9,int i64 s10,int i64 s11,int i64 s12,int i64 s13]):=qh hB;simp only at hF;have hH:=qh hF;have hP:=qh hN;have hI:=qh hO;clear hB hF hN hO hA hx hM hE;by_cases h1:s1=r
   ·by_cases h2:s2=b
    ·have CP:=Xf l ⟨s0,s1,s2,s3,s4,s5,s6,s7,s8,s9,s10,s11,s12,s13⟩ g k c wr hL.out.len (by omega) hD hL.out.row hL.out.lt hP.out (λy hy=>HR.out y (hI.out y ((hL.out.ok.mem y).1 hy)).1)
     unfold Av at CP;have hY:=qh CP;have hQ:(s1==r)=true:=by simpa using h1
     have hZ:(s2==b)=true:=by simpa using h2
     have ha:=qh (And.intro h1 h2);clear CP h1 h2;have st0:True:=trivial
     go_wp2_with (first
      | (have q:=st0;clear q;refine wpList_load_mid rfl 54 _ rfl gb (go+i*14) rfl [int i64 s0,int i64 s1,int i64 s2,int i64 s3,int i64 s4,int i64 s5,int i64 s6,int i64 s7,int i64 s8,int i64 s9,int i64 s10,int i64 s11,int i64 s12,int i64 s13] _ hG.out Tryz.underlying54 rfl (by kernel_rfl) ?_;simp only [Act.put,qD,qE,qF];clear st0;have st1:True:=trivial)
      | (go_at_call 78;refine hY.out.mono ?_;rintro e V3 ⟨hR,m,g2,c3,hT,rfl,q1,q2,q3⟩;have hc:=qh hR;have HQ:=qh (And.intro hT (And.intro q2 q3));clear hR hT q2 q3))
     have hC:=hL.out.ok.put HQ.out.1 (λy hy=>(hI.out y hy).2) hP.out (λy hy=>HR.out y (hI.out y hy).1);have HN:Hid (SgL (ofL r b (ss.take (i+1))) V2 g2 (k+1) c3 (VV ⟨s0,s1,s2,s3,s4,s5,s6,s7,s8,s9,s10,s11,s12,s13⟩ l m) V3):=qh ⟨hL.out.base.trans (hc.out.mono hL.out.base.size),by rw [hC.len,List.length_append,← hL.out.ok.len,hL.out.len];rfl,HQ.out.2.2,HQ.out.2.1,by rw [hH.out,if_pos ha.out];exact hC⟩;clear hC;go_roundw
     case rel=>exact ⟨i+1,k+1,c3,g2,_,rfl,by go_num,by omega,by omega,q1,HN⟩
     case measure=>first|omega|(simp [intOf];omega)
    ·have hQ:(s1==r)=true:=by simpa using h1
     have hZ:(s2==b)=false:=by simpa using h2
     have HN:Hid (SgL (ofL r b (ss.take (i+1))) V2 g k c l wr):=qh (by rw [hH.out,if_neg (λh=>h2 h.2),List.append_nil];exact hL.out);clear h1 h2;go_wp2_with fail;go_roundw
     case rel=>exact ⟨i+1,k,c,g,l,rfl,by go_num,by omega,by omega,hD,HN⟩
     case measure=>first|omega|(simp [intOf];omega)
   ·have hQ:(s1==r)=false:=by simpa using h1
    have HN:Hid (SgL (ofL r b (ss.take (i+1))) V2 g k c l wr):=qh (by rw [hH.out,if_neg (λh=>h1 h.1),List.append_nil];exact hL.out);clear h1;go_wp2_with fail;go_roundw
    case rel=>exact ⟨i+1,k,c,g,l,rfl,by go_num,by omega,by omega,hD,HN⟩
    case measure=>first|omega|(simp [intOf];omega)
  ·obtain rfl:i=nS:=by omega
   have hW:¬((i:Nat):Int)<(i:Int):=by omega
   clear hE;go_wp2_with fail;go_ret;have hb:=HB.out.trans (hL.out.base.mono HB.out.size);have hC:=hL.out.ok;rw [List.take_of_length_le (Nat.le_of_eq hK.out)] at hC;refine ⟨by first|exact hb|(rw [hU.out] at hb;exact hb),g,c,l,by rw [hL.out.len];rfl,⟨some ⟨g,0,none⟩,c,rfl,by rw [hL.out.len];unfold maxLen;omega,Or.inr ⟨g,0,rfl,hL.out.row,hL.out.lt⟩⟩,hC⟩
theorem Xj(wd dp ta tb tc bars:Int)(aR aT aP aX aS:Option Addr)(cR cT cP cX cS:Nat)(rs:List Rol)(ts:List Tmp)(ps:List Pau)(xs:List Con)(ss:List Sgn)(r b:Int)(w:World)(hR:IsRow CT 4 w (.slice aR rs.length cR) rs)(hT:IsRow BS 3 w (.slice aT ts.length cT) ts)(hP:IsRow Cx 4 w (.slice aP ps.length cP) ps)(hX:IsRow Cw 4 w (.slice aX xs.length cX) xs)(hS:IsRow Av 14 w (.slice aS ss.length cS) ss) :
  Calls Tryz.prog 16 #[.agg #[int i64 wd,int i64 dp,int i64 ta,int i64 tb,int i64 tc,.slice aR rs.length cR,int i64 bars,.slice aT ts.length cT,.slice aP ps.length cP,.slice aX xs.length cX,.slice aS ss.length cS],int i64 r,int i64 b] w (OfU ⟨wd,dp,ta,tb,tc,rs,⟨bars,ts,ps,xs⟩,ss⟩ r b w):=by
 obtain ⟨V1,e1,g1,b1,z1⟩:=Af w #[int i64 wd,int i64 dp,int i64 ta,int i64 tb,int i64 tc,.slice aR rs.length cR,int i64 bars,.slice aT ts.length cT,.slice aP ps.length cP,.slice aX xs.length cX,.slice aS ss.length cS] 39;have CK:=VQ ⟨wd,dp,ta,tb,tc,rs,⟨bars,ts,ps,xs⟩,ss⟩ aR aT aP aX aS cR cT cP cX cS V1 (hR.below b1 (qn _)) (hT.below b1 (qn _)) (hP.below b1 (qn _)) (hX.below b1 (qn _)) (hS.below b1 (qn _));simp only at CK;obtain ⟨k,hk⟩:∃k:Wrk,⟨wd,dp,ta,tb,tc,rs,⟨bars,ts,ps,xs⟩,ss⟩=k:=⟨_,rfl⟩;have hI:k.roles.length=rs.length:=by rw [← hk]
 have hJ:k.clock.bars=bars:=by rw [← hk]
 have hC:k.signs=ss:=by rw [← hk]
 rw [hk] at CK ⊢
 have hD:Dc k=0→rs.length≤64∧ss.length≤4096∧(1≤bars∧bars≤4096)∧ss.Pairwise (λx y=>x.id<y.id)∧∀s∈ss,Bh s.fn s.fd=true:=λhw=>by
  obtain ⟨hl,hc,_⟩:=Jo hw;have hO:=Fc (show C8 ⟨k.clock.bars,k.clock.tempos,k.clock.pauses,k.clock.spans⟩=0 from hc);unfold F8 at hl;simp only [Bool.and_eq_true,decide_eq_true_eq] at hl;rw [hI,hC] at hl;rw [hJ] at hO;rw [← hC];exact ⟨hl.1,by rw [hC];exact hl.2,hO,Gi (Iw hw),λs hs=>Mc (Fy (Iw hw) s hs)⟩
 have hQ:VH k r b=if Dc k=0 then (if inB r 0 ((rs.length:Int)-1)&&inB b 0 (bars-1) then 0 else 1) else Dc k:=by unfold VH;rw [hI,hJ]
 have hU:=qh CK;have hV:=qh hD;have hE:=qh hQ;have hf:=qh hC;have HS:=qh hS;have hg:=qh b1;have hh:=qh g1;clear CK hD hQ hC hI hJ hk b1 z1 hR hT hP hX hS;generalize hj:rs.length=nR at *;generalize ts.length=nT at *;generalize ps.length=nP at *;generalize xs.length=nX at *;generalize hW:ss.length=nS at *;have hK:=qh hW;clear hj hW;obtain ⟨BX,hB⟩:∃X,w.heap.size=X:=⟨_,rfl⟩;rw [hB] at g1;have hp:=qh hB;obtain ⟨cc,hY⟩:∃c,Dc k=c:=⟨_,rfl⟩;rw [hY] at hU hV hE;have hZ:=qh g1;clear g1 hh hY;have st0:True:=trivial;go_enter Tryz.func16,Tryz.ntmps16
 go_wp2_with (have q:=st0;clear q;refine wpList_load_row rfl 39 _ rfl BX rfl 39 #[int i64 wd,int i64 dp,int i64 ta,int i64 tb,int i64 tc,.slice aR nR cR,int i64 bars,.slice aT nT cT,.slice aP nP cP,.slice aX nX cX,.slice aS nS cS] (0,0) _ hZ.out Tryz.underlying39 rfl (by kernel_rfl) ?_;simp only [Act.put,qD,qE,qF];clear st0;have st1:True:=trivial);go_at_call 18;refine hU.out.mono ?_;rintro e V2 ⟨rfl,hL⟩;have hF:=qh (Ag hg.out hL);have hM:=qh (Ah hL hZ.out);clear hL;by_cases h0:cc=0
 rotate_left
 ·have hq:(cc==0)=false:=by simpa using h0
  have hA:=qh (show VH k r b=cc by rw [hE.out,if_neg h0]);go_wp2_with fail;go_ret2;exact VL (by rw [hA.out];rfl) (by have h:=hF.out;first|exact h|(rw [hB] at h;exact h)) (by rw [hA.out];exact h0)
 subst h0;obtain ⟨k1,k2,k3,k4,k5⟩:=hV.out rfl;have hm:=qh k4;have hn:=qh k5;clear k4 k5;have y5:V2.cell? ⟨BX,5,none⟩=some (.slice aR nR cR):=Aa hM.out 5 rfl;have y6:V2.cell? ⟨BX,6,none⟩=some (int i64 bars):=Aa hM.out 6 rfl;have ht:IntKind.i64.wrap ((nR:Int)-1)=(nR:Int)-1:=IntWalk.i64_in _ (by omega);have hu:IntKind.i64.wrap (bars-1)=bars-1:=IntWalk.i64_in _ (by omega)
 have HW:Hid (∀n lo hi (W:World),Calls Tryz.prog 47 #[int i64 n,int i64 lo,int i64 hi] W λe w'=>e=.returned (.bool (inB n lo hi))∧W=w'):=qh λn lo hi W=>(VX n lo hi W).mono λe w' h=>⟨h.1,h.2.symm⟩
 cases hr:inB r 0 ((nR:Int)-1) with
 | false =>
  have hA:=qh (show VH k r b=1 by rw [hE.out,if_pos rfl,hr];rfl)
  go_wp2_with (go_at_call 47;refine (HW.out _ _ _ _).mono ?_;rintro e w' ⟨rfl,rfl⟩;simp only [hr]);go_ret2;exact VL (by rw [hA.out];rfl) (by have h:=hF.out;first|exact h|(rw [hB] at h;exact h)) (by rw [hA.out];decide)
 | true =>
  cases hb:inB b 0 (bars-1) with
  | false =>
   have hA:=qh (show VH k r b=1 by rw [hE.out,if_pos rfl,hr,hb];rfl)
   go_wp2_with (go_at_call 47;refine (HW.out _ _ _ _).mono ?_;rintro e w' ⟨rfl,rfl⟩;simp only [hr,hb]);go_ret2;exact VL (by rw [hA.out];rfl) (by have h:=hF.out;first|exact h|(rw [hB] at h;exact h)) (by rw [hA.out];decide)
  | true =>
   have hA:=qh (show VH k r b=0 by rw [hE.out,if_pos rfl,hr,hb];rfl);have st4:True:=trivial
   go_wp2_with (first
    | (go_at_call 47;refine (HW.out _ _ _ _).mono ?_;rintro e w' ⟨rfl,rfl⟩;simp only [hr,hb])
    | (have q:=st4;clear q;refine wpList_load_row rfl 39 _ rfl BX rfl 39 #[int i64 wd,int i64 dp,int i64 ta,int i64 tb,int i64 tc,.slice aR nR cR,int i64 bars,.slice aT nT cT,.slice aP nP cP,.slice aX nX cX,.slice aS nS cS] (0,0) _ hM.out Tryz.underlying39 rfl (by kernel_rfl) ?_;simp only [Act.put,qD,qE,qF];clear st4;have st5:True:=trivial))
   go_at_call 48;have CS:=WG wd dp ta tb tc bars aR aT aP aX aS cR cT cP cX cS nR nT nP nX ss r b V2 (by rw [hK.out];exact HS.out.below hF.out (qn _)) hm.out hn.out (by rw [hK.out];exact k2);rw [hK.out] at CS;refine CS.mono ?_;rintro e V3 ⟨ha,g,c,l,rfl,hG,hD⟩;have ho:=qh (Ag hF.out ha);have hN:=qh hG;have hH:=qh hD;obtain ⟨nL,hd⟩:∃n,l.length=n:=⟨_,rfl⟩;rw [hd];clear ha hG hD CS;go_wp2_with fail;go_ret2;have he:=hA.out;refine ⟨by have h:=ho.out;first|exact h|(rw [hB] at h;exact h),some ⟨g,0,none⟩,c,l,by rw [he,hd];rfl,hN.out,λx=>by rw [he,hf.out,hH.out.mem];exact ⟨λh=>⟨rfl,h⟩,λh=>h.2⟩,hH.out.srt⟩
theorem Wa(wd dp ta tb tc bars:Int)(aR aT aP aX aS:Option Addr)(cR cT cP cX cS:Nat)(rs:List Rol)(ts:List Tmp)(ps:List Pau)(xs:List Con)(ss:List Sgn)(r b:Int)(w:World)(hR:IsRow CT 4 w (.slice aR rs.length cR) rs)(hT:IsRow BS 3 w (.slice aT ts.length cT) ts)(hP:IsRow Cx 4 w (.slice aP ps.length cP) ps)(hX:IsRow Cw 4 w (.slice aX xs.length cX) xs)(hS:IsRow Av 14 w (.slice aS ss.length cS) ss)(hE:∀V,Below w.heap.size w V→Env V∧EnvK V) :
  Calls Tryz.prog 4 #[.agg #[int i64 wd,int i64 dp,int i64 ta,int i64 tb,int i64 tc,.slice aR rs.length cR,int i64 bars,.slice aT ts.length cT,.slice aP ps.length cP,.slice aX xs.length cX,.slice aS ss.length cS],int i64 r,int i64 b] w λe w'=>e=.returned (.bool true)∧Below w.heap.size w w':=by
 obtain ⟨k,hk⟩:∃k:Wrk,⟨wd,dp,ta,tb,tc,rs,⟨bars,ts,ps,xs⟩,ss⟩=k:=⟨_,rfl⟩;have HF:=qh (λV=>UG wd dp ta tb tc bars aR aT aP aX aS cR cT cP cX cS rs ts ps xs ss V);have HO:=qh (λV (hV:Below w.heap.size w V)=>Xo wd dp ta tb tc bars aR aT aP aX aS cR cT cP cX cS rs ts ps xs ss r b V (hE V hV).2 (hR.below hV (qn _)) (hT.below hV (qn _)) (hP.below hV (qn _)) (hX.below hV (qn _)) (hS.below hV (qn _)));have HR:=qh (λV (hV:Below w.heap.size w V)=>Xj wd dp ta tb tc bars aR aT aP aX aS cR cT cP cX cS rs ts ps xs ss r b V (hR.below hV (qn _)) (hT.below hV (qn _)) (hP.below hV (qn _)) (hX.below hV (qn _)) (hS.below hV (qn _)));have HC:=qh (λV (hV:Below w.heap.size w V)=>DN wd dp ta tb tc bars aR aT aP aX aS cR cT cP cX cS rs ts ps xs ss V (hE V hV).2 (hR.below hV (qn _)) (hT.below hV (qn _)) (hP.below hV (qn _)) (hX.below hV (qn _)) (hS.below hV (qn _)));have HD:=qh (λV (hV:Below w.heap.size w V)=>VQ ⟨wd,dp,ta,tb,tc,rs,⟨bars,ts,ps,xs⟩,ss⟩ aR aT aP aX aS cR cT cP cX cS V (hR.below hV (qn _)) (hT.below hV (qn _)) (hP.below hV (qn _)) (hX.below hV (qn _)) (hS.below hV (qn _)));simp only at HD;rw [hk] at HF HO HR HC HD;obtain ⟨cc,hI⟩:∃c,Dc k=c:=⟨_,rfl⟩;simp only [hI] at HC HD;have HE:=qh hE;obtain ⟨V1,e1,g1,b1,z1⟩:=Af w #[int i64 wd,int i64 dp,int i64 ta,int i64 tb,int i64 tc,.slice aR rs.length cR,int i64 bars,.slice aT ts.length cT,.slice aP ps.length cP,.slice aX xs.length cX,.slice aS ss.length cS] 39;have HX:=qh g1;have HB:=qh b1;clear g1 b1 z1 hE hR hT hP hX hS hk hI;generalize rs.length=nR at *;generalize ts.length=nT at *;generalize ps.length=nP at *;generalize xs.length=nX at *;generalize ss.length=nS at *;obtain ⟨X,hX⟩:∃X,w.heap.size=X:=⟨_,rfl⟩;have T1:=HX.out;rw [hX] at T1;clear HX;have HX:=qh T1;have hJ:=qh hX;clear T1;have st0:True:=trivial;go_enter Tryz.func4,Tryz.ntmps4
 go_wp2_with (first
  | (have q:=st0;clear q;go_at_call 9;refine (TY _ (λV hV=>HE.out V (Ag HB.out hV))).mono ?_;rintro e V2 ⟨rfl,hb⟩;replace HB:=qh (Ag HB.out hb);replace HX:=qh (Ah hb HX.out);clear hb;clear st0;have st1:True:=trivial)
  | (have q:=st1;clear q;refine wpList_load_row rfl 39 _ rfl X rfl 39 #[int i64 wd,int i64 dp,int i64 ta,int i64 tb,int i64 tc,.slice aR nR cR,int i64 bars,.slice aT nT cT,.slice aP nP cP,.slice aX nX cX,.slice aS nS cS] (0,0) _ HX.out Tryz.underlying39 rfl (by kernel_rfl) ?_;simp only [Act.put,qD,qE,qF];clear st1;have st2:True:=trivial))
 go_at_call 14;refine (HF.out V2).mono ?_;rintro e V3 ⟨rfl,hb⟩;have T1:=qh (Ag HB.out hb);clear HB;have HB:=T1;clear T1;have T1:=qh (Ah hb HX.out);clear HX;have HX:=T1;clear T1;clear hb
 cases Tf k with
 | false =>
  go_wp2_with fail;go_ret;exact ⟨rfl,by have hq:=HB.out;first|exact hq|(rw [hJ.out] at hq;exact hq)⟩
 | true =>
 have st10:True:=trivial
 go_wp2_with (first
  | (have q:=st10;clear q;refine wpList_load_row rfl 39 _ rfl X rfl 39 #[int i64 wd,int i64 dp,int i64 ta,int i64 tb,int i64 tc,.slice aR nR cR,int i64 bars,.slice aT nT cT,.slice aP nP cP,.slice aX nX cX,.slice aS nS cS] (0,0) _ HX.out Tryz.underlying39 rfl (by kernel_rfl) ?_;simp only [Act.put,qD,qE,qF];clear st10;have st11:True:=trivial))
 go_at_call 15;refine (HO.out V3 HB.out).mono ?_;rintro e V5 ⟨hb,a1,c1,l1,rfl,hD,hL,hM⟩;have T1:=qh (Ag HB.out hb);clear HB;have HB:=T1;clear T1;have T1:=qh (Ah hb HX.out);clear HX;have HX:=T1;clear T1;clear hb;obtain ⟨n1,hC⟩:∃n,l1.length=n:=⟨_,rfl⟩;rw [hC] at hD ⊢;obtain ⟨er,hF⟩:∃e,VH k r b=e:=⟨_,rfl⟩;rw [hF];have hA:=qh hD;clear hD;have st20:True:=trivial
 go_wp2_with (first
  | (have q:=st20;clear q;refine wpList_load_row rfl 39 _ rfl X rfl 39 #[int i64 wd,int i64 dp,int i64 ta,int i64 tb,int i64 tc,.slice aR nR cR,int i64 bars,.slice aT nT cT,.slice aP nP cP,.slice aX nX cX,.slice aS nS cS] (0,0) _ HX.out Tryz.underlying39 rfl (by kernel_rfl) ?_;simp only [Act.put,qD,qE,qF];clear st20;have st21:True:=trivial))
 go_at_call 16;refine (HR.out V5 HB.out).mono ?_;rintro e V6 ⟨hb,a2,c2,l2,rfl,hG,hN,hO⟩
 replace hA:=qh (hA.out.below hb (qn _))
 have T1:=qh (Ag HB.out hb);clear HB;have HB:=T1;clear T1;have T1:=qh (Ah hb HX.out);clear HX;have HX:=T1;clear T1;clear hb;obtain rfl:l1=l2:=VP (λ_ _=>Wm) hM hO λx=>by rw [hL,hN]
 rw [hC] at hG ⊢;rw [hF];have hB:=qh hG;have HN:=qh hC;clear hG hL hN hM hO hC hF HO HR HF;have hU:(cc==cc)=true:=by simp
 have hW:(er==er)=true:=by simp
 go_wp2_with fail;obtain ⟨wq,hH⟩:∃wq:World,{ V6 with drawn:=V6.drawn+1 }=wq:=⟨_,rfl⟩;have hb:Below V6.heap.size V6 wq:=by rw [← hH];exact (Below.refl _ _).drew
 replace hA:=qh (hA.out.below hb (qn _))
 replace hB:=qh (hB.out.below hb (qn _))
 have T1:=qh (Ag HB.out hb);clear HB;have HB:=T1;clear T1;have T1:=qh (Ah hb HX.out);clear HX;have HX:=T1;clear T1;clear hb;refine wp_region_held (S:=λV=>V.heap[X]?=some (.cells #[int i64 wd,int i64 dp,int i64 ta,int i64 tb,int i64 tc,.slice aR nR cR,int i64 bars,.slice aT nT cT,.slice aP nP cP,.slice aX nX cX,.slice aS nS cS] 39 (0,0))) (by kernel_rfl) ?_;have hQ:=qh hH;clear hH;rw [hQ.out];refine tq 0 _ (.agg #[int i64 wd,int i64 dp,int i64 ta,int i64 tb,int i64 tc,.slice aR nR cR,int i64 bars,.slice aT nT cT,.slice aP nP cP,.slice aX nX cX,.slice aS nS cS]) rfl (by kernel_rfl) (λ_ _ _ h=>h) (Cv rfl 39 _ rfl X rfl 39 #[int i64 wd,int i64 dp,int i64 ta,int i64 tb,int i64 tc,.slice aR nR cR,int i64 bars,.slice aT nT cT,.slice aP nP cP,.slice aX nX cX,.slice aS nS cS] (0,0) _ (λ_ h=>h) Tryz.underlying39 rfl (by kernel_rfl)) HX.out ?_
 try simp only [Act.put,qz]
 refine tq 2 _ (.agg #[int i64 wd,int i64 dp,int i64 ta,int i64 tb,int i64 tc,.slice aR nR cR,int i64 bars,.slice aT nT cT,.slice aP nP cP,.slice aX nX cX,.slice aS nS cS]) rfl (by kernel_rfl) (λ_ _ _ h=>h) (Cv rfl 39 _ rfl X rfl 39 #[int i64 wd,int i64 dp,int i64 ta,int i64 tb,int i64 tc,.slice aR nR cR,int i64 bars,.slice aT nT cT,.slice aP nP cP,.slice aX nX cX,.slice aS nS cS] (0,0) _ (λ_ h=>h) Tryz.underlying39 rfl (by kernel_rfl)) HX.out ?_
 try simp only [Act.put,qz]
 refine tr 1 _ (by kernel_rfl) rfl λK1 hK=>?_
 go_simp;refine (HC.out _ HB.out).mono ?_;rintro e U1 ⟨rfl,hb⟩
 replace hA:=qh (hA.out.below hb (qn _))
 replace hB:=qh (hB.out.below hb (qn _))
 have T1:=qh (Ag HB.out hb);clear HB;have HB:=T1;clear T1;have T1:=qh (Ah hb HX.out);clear HX;have HX:=T1;clear T1;clear hb;refine hK.out _ _ HX.out (λ_=>?_);clear hK K1
 try simp only [Act.put,qz]
 refine tr 3 _ (by kernel_rfl) rfl λK1 hK=>?_
 go_simp;refine (HD.out _ HB.out).mono ?_;rintro e U2 ⟨rfl,hb⟩
 replace hA:=qh (hA.out.below hb (qn _))
 replace hB:=qh (hB.out.below hb (qn _))
 have T1:=qh (Ag HB.out hb);clear HB;have HB:=T1;clear T1;have T1:=qh (Ah hb HX.out);clear HX;have HX:=T1;clear T1;clear hb;refine hK.out _ _ HX.out (λ_=>?_);clear hK K1
 try simp only [Act.put,qz]
 refine tk 4 _ (.bool true) rfl (λV hb=>by go_simp) HX.out ?_
 try simp only [Act.put,qz]
 refine tk 5 _ (.bool true) rfl (λV hb=>by go_simp) HX.out ?_
 try simp only [Act.put,qz]
 refine tk 6 _ (int i64 er) rfl (λV hb=>by go_simp) HX.out ?_
 try simp only [Act.put,qz]
 refine tk 7 _ (int i64 er) rfl (λV hb=>by go_simp) HX.out ?_
 try simp only [Act.put,qz]
 refine tk 8 _ (.bool true) rfl (λV hb=>by go_simp) HX.out ?_
 try simp only [Act.put,qz]
 refine tk 9 _ (.bool true) rfl (λV hb=>by go_simp) HX.out ?_
 try simp only [Act.put,qz]
 refine tk 10 _ (.bool true) rfl (λV hb=>by go_simp) HX.out ?_
 try simp only [Act.put,qz]
 refine tk 11 _ (.slice a1 n1 c1) rfl (λV hb=>by go_simp) HX.out ?_
 try simp only [Act.put,qz]
 refine tk 12 _ (.slice a2 n1 c2) rfl (λV hb=>by go_simp) HX.out ?_
 try simp only [Act.put,qz]
 have CS:=In l1 l1 a1 a2 c1 c2 U2 (by rw [HN.out];exact hA.out) (by rw [HN.out];exact hB.out);rw [HN.out] at CS;simp only [decide_true] at CS;refine tr 13 _ (by kernel_rfl) rfl λK1 hK=>?_
 go_simp;refine (CS).mono ?_;rintro e U3 ⟨rfl,hb⟩
 replace hA:=qh (hA.out.below hb (qn _))
 replace hB:=qh (hB.out.below hb (qn _))
 have T1:=qh (Ag HB.out hb);clear HB;have HB:=T1;clear T1;have T1:=qh (Ah hb HX.out);clear HX;have HX:=T1;clear T1;clear hb;refine hK.out _ _ HX.out (λ_=>?_);clear hK K1
 try simp only [Act.put,qz]
 refine tk 14 _ (.bool true) rfl (λV hb=>by go_simp) HX.out ?_
 try simp only [Act.put,qz]
 refine tk 15 _ (.bool true) rfl (λV hb=>by go_simp) HX.out ?_
 try simp only [Act.put,qz]
 refine wpAnyH_done (by kernel_rfl) ?_ _;go_wp2_with fail;go_ret;exact ⟨rfl,by have hq:=HB.out;first|exact hq|(rw [hJ.out] at hq;exact hq)⟩
end
end Go.Proofs.YtbkemlgfdklpfaaGreatDoor
