/- Contracts and plain laws on the way to the statement: part 25. -/
import Derived.Test.YtbkemlgfdklpfaaGreatDoorV19
import Derived.Test.YtbkemlgfdklpfaaGreatDoorV11
import Derived.Test.YtbkemlgfdklpfaaGreatDoorV4
set_option linter.unusedVariables false
set_option linter.unusedSimpArgs false
set_option maxRecDepth 100000
set_option maxHeartbeats 16000000
namespace Go.Proofs.YtbkemlgfdklpfaaGreatDoor
open Go.Value (int)
open Go.IntKind (i64)
section
open Go Go.RowKit
theorem Ck{α:Type}{l:List α}{k:Nat}{x:α}(h:l[k]?=some x):l.drop k=x::l.drop (k+1):=by
 obtain ⟨h1,h2⟩:=ql.1 h;rw [← h2];exact List.drop_eq_getElem_cons h1
theorem Cs{w:World}{b:Nat}:∀{o:Nat} {ps:List Ph} {i:Nat} {p:Ph},Bk w b o ps→ps[i]?=some p→w.cell? ⟨b,o+i*2,none⟩=some (sv p.name)∧w.cell? ⟨b,o+i*2+1,none⟩=some p.val
 | _,[],_,_,_,h=>by cases h
 | o,_::_,0,_,⟨⟨h1,h2,_⟩,_⟩,h=>by cases h;simpa using ⟨h1,h2⟩
 | o,_::r,i+1,p,⟨_,h⟩,hi=>by
  have:=Cs (ps:=r) (i:=i) h (by simpa using hi);rw [show o+(i+1)*2=o+2+i*2 by omega];exact this
def Kg(l:List Nm)(w:World)(e:Ending)(w':World):Prop :=
 ((l.all AG=true∧∃b,w.heap.size≤b∧e=.returned (.map (some b))∧MapAt sv w' b (BB l))∨(l.all AG=false∧e=Ak 170))∧Below w.heap.size w w'
theorem Si(xs:List Rol)(ao:Option Addr)(c:Nat)(w:World)(he:Env w)(hx:IsRow CT 4 w (.slice ao xs.length c) xs) :
  Calls Tryz.prog 122 #[.slice ao xs.length c,.func (.func 123) #[] #[]] w (Kg (xs.map Rol.name) w):=by
 obtain ⟨_,_,_,hW,_⟩:=id hx;unfold maxLen at hW
 have hA:∀(i:Nat) (x:Rol),xs[i]?=some x→∃b o,ao=some ⟨b,o,none⟩∧AtRow CT 4 w b o xs:=λi x h=>by
  obtain ⟨b,o,h1,h2,_⟩:=IsRow.block hx h;exact ⟨b,o,h1,h2⟩
 have hX:=qh hA;clear hA;have hv:=@run_makeMap Tryz.prog;have hM0:MapAt sv (w.alloc (.map #[] 0)) w.heap.size []:=MapAt.new w;have hf:Below w.heap.size w (w.alloc (.map #[] 0)):=(Below.refl _ w).alloc (qn _) _;generalize hJ:BB (xs.map Rol.name)=tab;have hL:=qh hJ;have HE:=qh he;have hl:=qh hM0;have hm:=qh hf;clear hx he hM0 hf hJ;generalize hn:xs.length=n at *;have HN:=qh hn;clear hn;unfold Kg;go_enter Tryz.func122,Tryz.ntmps122;go_wp2_with fail;generalize w.alloc (.map #[] 0)=w1 at *;go_loopw [12] (λiv wr=>∃(i:Nat) (kvs:List (Nm×Value)),iv=int i64 i∧i≤n∧Hid (Dj ((xs.drop i).map Rol.name) i kvs=tab)∧Hid (((xs.take i).map Rol.name).all AG=true)∧Hid (MapAt sv wr w.heap.size kvs)∧Hid (AT kvs)∧Hid (Below w.heap.size w wr)) (λiv _=>n+1-(intOf iv).toNat)
 case atStart=>exact ⟨0,[],rfl,Nat.zero_le _,hL,qh (by simp),hl,qh List.nodup_nil,hm⟩
 case round =>
  obtain ⟨i,kvs,rfl,hw,hg,hN,hM,hK,hF⟩:=hrel;by_cases hh:i<n
  ·have hi:(i:Int)<(n:Int):=by omega
   obtain ⟨x,hB⟩:∃x,xs[i]?=some x:=⟨_,qg (by rw [HN.out];exact hh)⟩;have hC:xs.drop i=x::xs.drop (i+1):=Ck hB;have hD:xs.take (i+1)=xs.take i++[x]:=by rw [List.take_add_one,hB];rfl
   have ho:=qh hC;have hp:=qh hD;have hy:=qh hB;obtain ⟨b,o,hq,hA⟩:=hX.out i x hB;subst hq;have q0:=Ad hF.out (hA i x hB 0 _ rfl);have q1:=Ad hF.out (hA i x hB 1 _ rfl);have q2:=Ad hF.out (hA i x hB 2 _ rfl);have q3:=Ad hF.out (hA i x hB 3 _ rfl);simp only [Nat.add_zero] at q0;clear hA;have hj:x∈xs:=List.mem_of_getElem? hB;have hr:=qh hj;clear hC hD hB hj;obtain ⟨w2,hO⟩:∃w2,wr.alloc (.cells #[sv x.name,int i64 x.x,int i64 x.y,int i64 x.face] 73)=w2:=⟨_,rfl⟩;have hY:Below wr.heap.size wr w2:=by rw [← hO];exact (Below.refl _ _).alloc (qn _) _
   have d0:w2.cell? ⟨wr.heap.size,0,none⟩=some (sv x.name):=by rw [← hO];exact Aa (heap_alloc_new wr _) 0 rfl
   have d1:w2.cell? ⟨wr.heap.size,1,none⟩=some (int i64 x.x):=by rw [← hO];exact Aa (heap_alloc_new wr _) 1 rfl
   have d2:w2.cell? ⟨wr.heap.size,2,none⟩=some (int i64 x.y):=by rw [← hO];exact Aa (heap_alloc_new wr _) 2 rfl
   have d3:w2.cell? ⟨wr.heap.size,3,none⟩=some (int i64 x.face):=by rw [← hO];exact Aa (heap_alloc_new wr _) 3 rfl
   have hH:=qh (hF.out.trans (hY.mono hF.out.size));have hM2:=qh (hM.out.below hY hM.out.lt);clear hY
   have hP:AG (x.name)=false→(xs.map Rol.name).all AG=false:=λh=>by
    rw [List.all_eq_false];exact ⟨_,List.mem_map.2 ⟨x,hr.out,rfl⟩,by simp [h]⟩
   have hQ:=qh hP;clear hP;by_cases hG:BA (x.name)=true
   ·have hz:=EU hG
    by_cases hU:Lib.contains words (32::((x.name)++[32]))=true
    ·have hE:AG (x.name)=false:=by unfold AG;rw [hG,hU];rfl
     have hR:=qh (hQ.out hE);clear hE
     go_wp2_with (first
      | (go_at_call 123;refine (M0 _ _ _ _ _).mono ?_;rintro e w3 ⟨rfl,hI⟩;have hZ:Below w.heap.size w w3:=hH.out.trans (hI.mono hH.out.size))
      | (go_at_call 148;refine (Cq _ _).mono ?_;rintro e w4 ⟨rfl,rfl⟩;rw [hG])
      | (go_at_call 149;refine (BY _ _ (HE.out.below (by assumption))).mono ?_;rintro e w5 ⟨rfl,rfl⟩;rw [hU])
      | (go_at_call 126;refine (AE _ _).mono ?_;unfold Ak;rintro e w6 ⟨rfl,rfl⟩))
     exact ⟨rfl,Or.inr ⟨hR.out,rfl⟩,by assumption⟩
    ·have hS:Lib.contains words (32::((x.name)++[32]))=false:=by simpa using hU
     have hE:AG (x.name)=true:=by unfold AG;rw [hG,hS];rfl
     have hR:=qh hE;clear hE hU
     go_wp2_with (first
      | (go_at_call 123;refine (M0 _ _ _ _ _).mono ?_;rintro e w3 ⟨rfl,hI⟩;have hZ:Below w.heap.size w w3:=hH.out.trans (hI.mono hH.out.size))
      | (go_at_call 148;refine (Cq _ _).mono ?_;rintro e w4 ⟨rfl,rfl⟩;rw [hG])
      | (go_at_call 149;refine (BY _ _ (HE.out.below (by assumption))).mono ?_;rintro e w5 ⟨rfl,rfl⟩;rw [hS])
      | (go_at_call 126;refine (Bv _ _).mono ?_;rintro e w6 ⟨rfl,rfl⟩;obtain ⟨ob,hs,hk⟩:=Bj (P:=Tryz.prog) (T:=181) JZ Tryz.underlying181 Tryz.underlying9 (hM2.out.below hI hM2.out.lt) hK.out x.name (int i64 i);have ha:=qh hk;have hb:=qh (hZ.trans (Bo _ w.heap.size ob (qn _)));clear hk))
     go_roundw
     case rel=>exact ⟨i+1,Bn kvs (x.name) (int i64 i),by go_num,hh,qh (by have:=hg.out;rw [ho.out] at this;exact this),qh (by rw [hp.out,List.map_append,List.all_append,hN.out];simp [hR.out]),ha.out,qh (BP hK.out _ _),hb.out⟩
     case measure=>simp [intOf];omega
   ·have hT:BA (x.name)=false:=by simpa using hG
    have hE:AG (x.name)=false:=by unfold AG;rw [hT];rfl
    have hR:=qh (hQ.out hE);clear hE hG
    go_wp2_with (first
     | (go_at_call 123;refine (M0 _ _ _ _ _).mono ?_;rintro e w3 ⟨rfl,hI⟩;have hZ:Below w.heap.size w w3:=hH.out.trans (hI.mono hH.out.size))
     | (go_at_call 148;refine (Cq _ _).mono ?_;rintro e w4 ⟨rfl,rfl⟩;rw [hT])
     | (go_at_call 126;refine (AE _ _).mono ?_;unfold Ak;rintro e w6 ⟨rfl,rfl⟩))
    exact ⟨rfl,Or.inr ⟨hR.out,rfl⟩,by assumption⟩
  ·obtain rfl:i=n:=by omega
   have hc:=hM.out;have hV:=hg.out;have hd:=hN.out;rw [List.drop_eq_nil_of_le (by rw [HN.out];exact qn _)] at hV;rw [List.take_of_length_le (by rw [HN.out];exact qn _)] at hd;simp only [List.map_nil,Dj] at hV;rw [hV] at hc;have ht:=qh hc;have hu:=qh hd;clear hc hV hd;go_wp2_with fail;go_ret;exact ⟨Or.inl ⟨hu.out,w.heap.size,qn _,rfl,by rw [hL.out];exact ht.out⟩,hF.out⟩
theorem Sj(xs:List Ph)(ao:Option Addr)(c:Nat)(w:World)(he:Env w)(hx:(xs=[]∨ao=some ⟨blk ao,off ao,none⟩)∧xs.length≤maxLen∧Bk w (blk ao) (off ao) xs) :
  Calls Tryz.prog 124 #[.slice ao xs.length c,.func (.func 125) #[] #[]] w (Kg (xs.map Ph.name) w):=by
 obtain ⟨hA,hW,hg⟩:=hx;unfold maxLen at hW
 have hI:∀(i:Nat) (x:Ph),xs[i]?=some x→∃b o,ao=some ⟨b,o,none⟩∧w.cell? ⟨b,o+i*2,none⟩=some (sv x.name)∧w.cell? ⟨b,o+i*2+1,none⟩=some x.val:=λi x h=>by
  obtain ⟨h1,h2⟩:=Cs hg h;refine ⟨_,_,hA.resolve_left (λe=>by rw [e] at h;cases h),h1,h2⟩
 have hX:=qh hI;clear hI hg hA;have hy:=@run_makeMap Tryz.prog;have hM0:MapAt sv (w.alloc (.map #[] 0)) w.heap.size []:=MapAt.new w;have hh:Below w.heap.size w (w.alloc (.map #[] 0)):=(Below.refl _ w).alloc (qn _) _;generalize hJ:BB (xs.map Ph.name)=tab;have hL:=qh hJ;have HE:=qh he;have ho:=qh hM0;have hp:=qh hh;clear he hM0 hh hJ;generalize hn:xs.length=n at *;have HN:=qh hn;clear hn;unfold Kg;go_enter Tryz.func124,Tryz.ntmps124;go_wp2_with fail;generalize w.alloc (.map #[] 0)=w1 at *;go_loopw [12] (λiv wr=>∃(i:Nat) (kvs:List (Nm×Value)),iv=int i64 i∧i≤n∧Hid (Dj ((xs.drop i).map Ph.name) i kvs=tab)∧Hid (((xs.take i).map Ph.name).all AG=true)∧Hid (MapAt sv wr w.heap.size kvs)∧Hid (AT kvs)∧Hid (Below w.heap.size w wr)) (λiv _=>n+1-(intOf iv).toNat)
 case atStart=>exact ⟨0,[],rfl,Nat.zero_le _,hL,qh (by simp),ho,qh List.nodup_nil,hp⟩
 case round =>
  obtain ⟨i,kvs,rfl,hz,hj,hN,hM,hK,hO⟩:=hrel;by_cases hk:i<n
  ·have hi:(i:Int)<(n:Int):=by omega
   obtain ⟨x,hF⟩:∃x,xs[i]?=some x:=⟨_,qg (by rw [HN.out];exact hk)⟩;have hB:xs.drop i=x::xs.drop (i+1):=Ck hF;have hC:xs.take (i+1)=xs.take i++[x]:=by rw [List.take_add_one,hF];rfl
   have hq:=qh hB;have hr:=qh hC;have h0:=qh hF;obtain ⟨b,o,hs,r0,r1⟩:=hX.out i x hF;subst hs;have q0:=Ad hO.out r0;have q1:=Ad hO.out r1;unfold Ph.val at q1;clear r0 r1;have hl:x∈xs:=List.mem_of_getElem? hF;have ht:=qh hl;clear hB hC hF hl;obtain ⟨w2,hY⟩:∃w2,wr.alloc (.cells #[sv x.name,.slice x.ia x.its.len x.ic] 58)=w2:=⟨_,rfl⟩;have hZ:Below wr.heap.size wr w2:=by rw [← hY];exact (Below.refl _ _).alloc (qn _) _
   have d0:w2.cell? ⟨wr.heap.size,0,none⟩=some (sv x.name):=by rw [← hY];exact Aa (heap_alloc_new wr _) 0 rfl
   have d1:w2.cell? ⟨wr.heap.size,1,none⟩=some (.slice x.ia x.its.len x.ic):=by rw [← hY];exact Aa (heap_alloc_new wr _) 1 rfl
   have hG:=qh (hO.out.trans (hZ.mono hO.out.size));have hM2:=qh (hM.out.below hZ hM.out.lt);clear hZ
   have hP:AG (x.name)=false→(xs.map Ph.name).all AG=false:=λh=>by
    rw [List.all_eq_false];exact ⟨_,List.mem_map.2 ⟨x,ht.out,rfl⟩,by simp [h]⟩
   have hQ:=qh hP;clear hP;by_cases hE:BA (x.name)=true
   ·have h3:=EU hE
    by_cases hU:Lib.contains words (32::((x.name)++[32]))=true
    ·have hD:AG (x.name)=false:=by unfold AG;rw [hE,hU];rfl
     have hR:=qh (hQ.out hD);clear hD
     go_wp2_with (first
      | (go_at_call 125;refine (M7 _ _ _ _ _).mono ?_;rintro e w3 ⟨rfl,hH⟩;have ha:Below w.heap.size w w3:=hG.out.trans (hH.mono hG.out.size))
      | (go_at_call 148;refine (Cq _ _).mono ?_;rintro e w4 ⟨rfl,rfl⟩;rw [hE])
      | (go_at_call 149;refine (BY _ _ (HE.out.below (by assumption))).mono ?_;rintro e w5 ⟨rfl,rfl⟩;rw [hU])
      | (go_at_call 126;refine (AE _ _).mono ?_;unfold Ak;rintro e w6 ⟨rfl,rfl⟩))
     exact ⟨rfl,Or.inr ⟨hR.out,rfl⟩,by assumption⟩
    ·have hS:Lib.contains words (32::((x.name)++[32]))=false:=by simpa using hU
     have hD:AG (x.name)=true:=by unfold AG;rw [hE,hS];rfl
     have hR:=qh hD;clear hD hU
     go_wp2_with (first
      | (go_at_call 125;refine (M7 _ _ _ _ _).mono ?_;rintro e w3 ⟨rfl,hH⟩;have ha:Below w.heap.size w w3:=hG.out.trans (hH.mono hG.out.size))
      | (go_at_call 148;refine (Cq _ _).mono ?_;rintro e w4 ⟨rfl,rfl⟩;rw [hE])
      | (go_at_call 149;refine (BY _ _ (HE.out.below (by assumption))).mono ?_;rintro e w5 ⟨rfl,rfl⟩;rw [hS])
      | (go_at_call 126;refine (Bv _ _).mono ?_;rintro e w6 ⟨rfl,rfl⟩;obtain ⟨ob,hu,hm⟩:=Bj (P:=Tryz.prog) (T:=181) JZ Tryz.underlying181 Tryz.underlying9 (hM2.out.below hH hM2.out.lt) hK.out x.name (int i64 i);have hb:=qh hm;have hc:=qh (ha.trans (Bo _ w.heap.size ob (qn _)));clear hm))
     go_roundw
     case rel=>exact ⟨i+1,Bn kvs (x.name) (int i64 i),by go_num,hk,qh (by have:=hj.out;rw [hq.out] at this;exact this),qh (by rw [hr.out,List.map_append,List.all_append,hN.out];simp [hR.out]),hb.out,qh (BP hK.out _ _),hc.out⟩
     case measure=>simp [intOf];omega
   ·have hT:BA (x.name)=false:=by simpa using hE
    have hD:AG (x.name)=false:=by unfold AG;rw [hT];rfl
    have hR:=qh (hQ.out hD);clear hD hE
    go_wp2_with (first
     | (go_at_call 125;refine (M7 _ _ _ _ _).mono ?_;rintro e w3 ⟨rfl,hH⟩;have ha:Below w.heap.size w w3:=hG.out.trans (hH.mono hG.out.size))
     | (go_at_call 148;refine (Cq _ _).mono ?_;rintro e w4 ⟨rfl,rfl⟩;rw [hT])
     | (go_at_call 126;refine (AE _ _).mono ?_;unfold Ak;rintro e w6 ⟨rfl,rfl⟩))
    exact ⟨rfl,Or.inr ⟨hR.out,rfl⟩,by assumption⟩
  ·obtain rfl:i=n:=by omega
   have hd:=hM.out;have hV:=hj.out;have hf:=hN.out;rw [List.drop_eq_nil_of_le (by rw [HN.out];exact qn _)] at hV;rw [List.take_of_length_le (by rw [HN.out];exact qn _)] at hf;simp only [List.map_nil,Dj] at hV;rw [hV] at hd;have hv:=qh hd;have hw:=qh hf;clear hd hV hf;go_wp2_with fail;go_ret;exact ⟨Or.inl ⟨hw.out,w.heap.size,qn _,rfl,by rw [hL.out];exact hv.out⟩,hO.out⟩
theorem Sh(xs:List Nm)(ao:Option Addr)(c:Nat)(w:World)(he:Env w)(hx:∃b o,ao=some ⟨b,o,none⟩∧xs.length≤maxLen∧∀(i:Nat) (x:Nm),xs[i]?=some x→w.cell? ⟨b,o+i,none⟩=some (sv x)) :
  Calls Tryz.prog 120 #[.slice ao xs.length c,.func (.func 121) #[] #[]] w (Kg (xs.map id) w):=by
 obtain ⟨b,o,hh,hS,hF⟩:=hx;subst hh;unfold maxLen at hS;have hT:=qh hF;clear hF;have hs:=@run_makeMap Tryz.prog;have hM0:MapAt sv (w.alloc (.map #[] 0)) w.heap.size []:=MapAt.new w;have hb:Below w.heap.size w (w.alloc (.map #[] 0)):=(Below.refl _ w).alloc (qn _) _;generalize hG:BB (xs.map id)=tab;have hH:=qh hG;have HE:=qh he;have hj:=qh hM0;have hk:=qh hb;clear he hM0 hb hG;generalize hn:xs.length=n at *;have HN:=qh hn;clear hn;unfold Kg;go_enter Tryz.func120,Tryz.ntmps120;go_wp2_with fail;generalize w.alloc (.map #[] 0)=w1 at *;go_loopw [12] (λiv wr=>∃(i:Nat) (kvs:List (Nm×Value)),iv=int i64 i∧i≤n∧Hid (Dj ((xs.drop i).map id) i kvs=tab)∧Hid (((xs.take i).map id).all AG=true)∧Hid (MapAt sv wr w.heap.size kvs)∧Hid (AT kvs)∧Hid (Below w.heap.size w wr)) (λiv _=>n+1-(intOf iv).toNat)
 case atStart=>exact ⟨0,[],rfl,Nat.zero_le _,hH,qh (by simp),hj,qh List.nodup_nil,hk⟩
 case round =>
  obtain ⟨i,kvs,rfl,ht,hc,hI,hM,hK,hU⟩:=hrel;by_cases hd:i<n
  ·have hi:(i:Int)<(n:Int):=by omega
   obtain ⟨x,hE⟩:∃x,xs[i]?=some x:=⟨_,qg (by rw [HN.out];exact hd)⟩;have hA:xs.drop i=x::xs.drop (i+1):=Ck hE;have hB:xs.take (i+1)=xs.take i++[x]:=by rw [List.take_add_one,hE];rfl
   have hl:=qh hA;have hm:=qh hB;have hu:=qh hE;have q0:=Ad hU.out (hT.out i x hE);have hf:x∈xs:=List.mem_of_getElem? hE;have ho:=qh hf;clear hA hB hE hf;have hV:=hU;have hM2:=hM
   have hJ:AG (x)=false→(xs.map id).all AG=false:=λh=>by
    rw [List.all_eq_false];exact ⟨_,List.mem_map.2 ⟨x,ho.out,rfl⟩,by simp [h]⟩
   have hL:=qh hJ;clear hJ;by_cases hD:BA (x)=true
   ·have hv:=EU hD
    by_cases hQ:Lib.contains words (32::((x)++[32]))=true
    ·have hC:AG (x)=false:=by unfold AG;rw [hD,hQ];rfl
     have hN:=qh (hL.out hC);clear hC
     go_wp2_with (first
      | (go_at_call 121;refine (LZ _ _).mono ?_;rintro e w3 ⟨rfl,rfl⟩;have hW:Below w.heap.size w wr:=hV.out)
      | (go_at_call 148;refine (Cq _ _).mono ?_;rintro e w4 ⟨rfl,rfl⟩;rw [hD])
      | (go_at_call 149;refine (BY _ _ (HE.out.below (by assumption))).mono ?_;rintro e w5 ⟨rfl,rfl⟩;rw [hQ])
      | (go_at_call 126;refine (AE _ _).mono ?_;unfold Ak;rintro e w6 ⟨rfl,rfl⟩))
     exact ⟨rfl,Or.inr ⟨hN.out,rfl⟩,by assumption⟩
    ·have hO:Lib.contains words (32::((x)++[32]))=false:=by simpa using hQ
     have hC:AG (x)=true:=by unfold AG;rw [hD,hO];rfl
     have hN:=qh hC;clear hC hQ
     go_wp2_with (first
      | (go_at_call 121;refine (LZ _ _).mono ?_;rintro e w3 ⟨rfl,rfl⟩;have hW:Below w.heap.size w wr:=hV.out)
      | (go_at_call 148;refine (Cq _ _).mono ?_;rintro e w4 ⟨rfl,rfl⟩;rw [hD])
      | (go_at_call 149;refine (BY _ _ (HE.out.below (by assumption))).mono ?_;rintro e w5 ⟨rfl,rfl⟩;rw [hO])
      | (go_at_call 126;refine (Bv _ _).mono ?_;rintro e w6 ⟨rfl,rfl⟩;obtain ⟨ob,hp,hg⟩:=Bj (P:=Tryz.prog) (T:=181) JZ Tryz.underlying181 Tryz.underlying9 hM2.out hK.out x (int i64 i);have hX:=qh hg;have hY:=qh (hW.trans (Bo _ w.heap.size ob (qn _)));clear hg))
     go_roundw
     case rel=>exact ⟨i+1,Bn kvs (x) (int i64 i),by go_num,hd,qh (by have:=hc.out;rw [hl.out] at this;exact this),qh (by rw [hm.out,List.map_append,List.all_append,hI.out];simp [hN.out]),hX.out,qh (BP hK.out _ _),hY.out⟩
     case measure=>simp [intOf];omega
   ·have hP:BA (x)=false:=by simpa using hD
    have hC:AG (x)=false:=by unfold AG;rw [hP];rfl
    have hN:=qh (hL.out hC);clear hC hD
    go_wp2_with (first
     | (go_at_call 121;refine (LZ _ _).mono ?_;rintro e w3 ⟨rfl,rfl⟩;have hW:Below w.heap.size w wr:=hV.out)
     | (go_at_call 148;refine (Cq _ _).mono ?_;rintro e w4 ⟨rfl,rfl⟩;rw [hP])
     | (go_at_call 126;refine (AE _ _).mono ?_;unfold Ak;rintro e w6 ⟨rfl,rfl⟩))
    exact ⟨rfl,Or.inr ⟨hN.out,rfl⟩,by assumption⟩
  ·obtain rfl:i=n:=by omega
   have hZ:=hM.out;have hR:=hc.out;have ha:=hI.out;rw [List.drop_eq_nil_of_le (by rw [HN.out];exact qn _)] at hR;rw [List.take_of_length_le (by rw [HN.out];exact qn _)] at ha;simp only [List.map_nil,Dj] at hR;rw [hR] at hZ;have hq:=qh hZ;have hr:=qh ha;clear hZ hR ha;go_wp2_with fail;go_ret;exact ⟨Or.inl ⟨hr.out,w.heap.size,qn _,rfl,by rw [hH.out];exact hq.out⟩,hU.out⟩
end
end Go.Proofs.YtbkemlgfdklpfaaGreatDoor
