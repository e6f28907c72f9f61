/- Contracts and plain laws on the way to the statement: part 24. -/
import Derived.Test.YtpnbpepkoekkoaaGreatZ18
import Derived.Test.YtpnbpepkoekkoaaGreatZ14
import Derived.Test.YtpnbpepkoekkoaaGreatZ3
set_option linter.unusedVariables false
set_option linter.unusedSimpArgs false
set_option maxRecDepth 100000
set_option maxHeartbeats 16000000
namespace Go.Proofs.YtpnbpepkoekkoaaGreat
open Go.Value (int)
open Go.IntKind (i64)
section
open Go Go.RowKit
def wordsA:List Nm:=[[119,111,114,107],[102,108,111,111,114],[98,97,114,115],[116,111,108,101,114,97,110,99,101],[114,111,108,101],[97,116],[102,97,99,105,110,103],[116,101,109,112,111],[116,105,99,107,115],[108,111,110,103,101,114],[115,104,111,114,116,101,114],[112,97,117,115,101],[99,97,108,108,101,100],[102,114,111,109],[116,111],[115,112,97,110],[112,104,114,97,115,101],[100,97,110,99,101],[109,105,114,114,111,114],[98,97,114],[114,101,112,101,97,116],[117,115,101],[112,108,97,99,101]]
def wordsB:List Nm:=[[102,111,114,101],[102,111,114,101,114,105,103,104,116],[114,105,103,104,116],[98,97,99,107,114,105,103,104,116],[98,97,99,107],[98,97,99,107,108,101,102,116],[108,101,102,116],[102,111,114,101,108,101,102,116]]
def wordsC:List Nm:=[[108,111,119],[109,105,100,100,108,101],[104,105,103,104]]
def wordsD:List Nm:=[[101,115,115,101,110,116,105,97,108],[111,112,116,105,111,110,97,108],[104,97,98,105,116]]
def wordsE:List Nm:=[[115,116,101,112],[106,117,109,112],[108,101,103],[97,114,109],[116,114,117,110,107],[116,117,114,110],[108,105,102,116],[114,105,100,101],[102,114,101,101]]
def refWords:List Nm:=wordsA++wordsB++wordsC++wordsD++wordsE
def MU(xs:List Nm)(w:World)(e:Ending)(w':World):Prop:=∃v,e=.returned v∧w'.ownsRow w.heap.size 9 1 v xs.length (xs.map sv)∧Below w.heap.size w w'
theorem Fm{w:World}{xs:List Nm}{n:Nat}(hn:xs.length=n)(hm:n≤maxLen):(w.alloc (.cells (xs.map sv).toArray 9)).ownsRow w.heap.size 9 1 (.slice (some ⟨w.heap.size,0,none⟩) n n) n (xs.map sv) :=
 ⟨by simp [hn],Or.inr ⟨w.heap.size,n,(xs.map sv).toArray,rfl,qn _,heap_alloc_new w _,qn _,hm,by simp [hn],by simpa using List.take_of_length_le (by simp [hn])⟩⟩
theorem Sj(w:World):Calls Tryz.prog 121 #[] w (MU wordsB w):=by
 have ho:=Fm (w:=w) (xs:=wordsB) (n:=8) rfl (by unfold maxLen;decide);have HO:=qh ho;have HB:=qh ((Below.refl w.heap.size w).alloc (qn _) (.cells (wordsB.map sv).toArray 9));clear ho;go_enter Tryz.func121,Tryz.ntmps121;go_wp2_with fail;go_ret;exact ⟨_,rfl,HO.out,HB.out⟩
theorem Sk(w:World):Calls Tryz.prog 122 #[] w (MU wordsC w):=by
 have ho:=Fm (w:=w) (xs:=wordsC) (n:=3) rfl (by unfold maxLen;decide);have HO:=qh ho;have HB:=qh ((Below.refl w.heap.size w).alloc (qn _) (.cells (wordsC.map sv).toArray 9));clear ho;go_enter Tryz.func122,Tryz.ntmps122;go_wp2_with fail;go_ret;exact ⟨_,rfl,HO.out,HB.out⟩
theorem Sl(w:World):Calls Tryz.prog 123 #[] w (MU wordsD w):=by
 have ho:=Fm (w:=w) (xs:=wordsD) (n:=3) rfl (by unfold maxLen;decide);have HO:=qh ho;have HB:=qh ((Below.refl w.heap.size w).alloc (qn _) (.cells (wordsD.map sv).toArray 9));clear ho;go_enter Tryz.func123,Tryz.ntmps123;go_wp2_with fail;go_ret;exact ⟨_,rfl,HO.out,HB.out⟩
theorem Sm(w:World):Calls Tryz.prog 124 #[] w (MU wordsE w):=by
 have ho:=Fm (w:=w) (xs:=wordsE) (n:=9) rfl (by unfold maxLen;decide);have HO:=qh ho;have HB:=qh ((Below.refl w.heap.size w).alloc (qn _) (.cells (wordsE.map sv).toArray 9));clear ho;go_enter Tryz.func124,Tryz.ntmps124;go_wp2_with fail;go_ret;exact ⟨_,rfl,HO.out,HB.out⟩
theorem Tf:(Tryz.prog.info? 9).map (λi=>(i.zero,i.size,i.bytes))=some (some (.string ⟨#[]⟩),1,16):=by kernel_rfl
theorem K8(xs:List Nm):∀u∈xs.map sv,u.oneCell'=true:=by
 intro u hu;obtain ⟨x,_,rfl⟩:=List.mem_map.1 hu
 rfl
theorem GG{w w':World}{v:Value}{xs:List Nm}{n:Nat}(hn:xs.length=n)(ho:w'.ownsRow w.heap.size 9 1 v xs.length (xs.map sv)) :
  ∃ao c,v=.slice ao n c∧(ao=none→n=0)∧∀ad,ao=some ad→∀j u,(xs.map sv)[j]?=some u→w'.cell? (ad.add j)=some u:=by
 obtain ⟨ao,c,rfl,_,h0,hf,_,hc⟩:=GF (by decide) ho;refine ⟨ao,c,by rw [hn],λe=>by rw [← hn];exact h0 e,λad ha j u hj=>?_⟩;rcases hf with e|e
 ·rw [e] at ha;cases ha
 ·rw [e] at ha;cases ha
  rw [AM];exact hc j u hj
theorem Od(w:World):Calls Tryz.prog 114 #[] w (MU refWords w):=by
 obtain ⟨i0,hF,hG,hH,hI⟩:=info_parts Tf;have ho:=Fm (w:=w) (xs:=wordsA) (n:=23) rfl (by unfold maxLen;decide);have hJ:Below w.heap.size w (w.alloc (.cells (wordsA.map sv).toArray 9)):=(Below.refl w.heap.size w).alloc (qn _) _;have HI:=qh (And.intro hF (And.intro hG (And.intro hH hI)));have HO:=qh ho;have HB:=qh hJ;clear ho hJ hF hG hH hI;go_enter Tryz.func114,Tryz.ntmps114
 go_wp2_with (first|(go_at_call 121;refine (Sj _).mono ?_;rintro e w2 ⟨v2,rfl,hC,hA⟩;have hB:=GG (n:=8) rfl hC;obtain ⟨ao2,c2,rfl,s1,s2⟩:=hB;have HN:=qh (And.intro (show (wordsB.map sv).length=8*1 from rfl) (And.intro s1 (And.intro s2 (K8 wordsB))));have hD:=qh (Dq HO.out hA);have hE:=qh (HB.out.trans (hA.mono HB.out.size));clear hC hA s1 s2 HO HB;have HO:=hD;have HB:=hE;clear hD hE)|(go_at_call 122;refine (Sk _).mono ?_;rintro e w2 ⟨v2,rfl,hC,hA⟩;have hB:=GG (n:=3) rfl hC;obtain ⟨ao2,c2,rfl,s1,s2⟩:=hB;have HN:=qh (And.intro (show (wordsC.map sv).length=3*1 from rfl) (And.intro s1 (And.intro s2 (K8 wordsC))));have hD:=qh (Dq HO.out hA);have hE:=qh (HB.out.trans (hA.mono HB.out.size));clear hC hA s1 s2 HO HB;have HO:=hD;have HB:=hE;clear hD hE)|(go_at_call 123;refine (Sl _).mono ?_;rintro e w2 ⟨v2,rfl,hC,hA⟩;have hB:=GG (n:=3) rfl hC;obtain ⟨ao2,c2,rfl,s1,s2⟩:=hB;have HN:=qh (And.intro (show (wordsD.map sv).length=3*1 from rfl) (And.intro s1 (And.intro s2 (K8 wordsD))));have hD:=qh (Dq HO.out hA);have hE:=qh (HB.out.trans (hA.mono HB.out.size));clear hC hA s1 s2 HO HB;have HO:=hD;have HB:=hE;clear hD hE)|(go_at_call 124;refine (Sm _).mono ?_;rintro e w2 ⟨v2,rfl,hC,hA⟩;have hB:=GG (n:=9) rfl hC;obtain ⟨ao2,c2,rfl,s1,s2⟩:=hB;have HN:=qh (And.intro (show (wordsE.map sv).length=9*1 from rfl) (And.intro s1 (And.intro s2 (K8 wordsE))));have hD:=qh (Dq HO.out hA);have hE:=qh (HB.out.trans (hA.mono HB.out.size));clear hC hA s1 s2 HO HB;have HO:=hD;have HB:=hE;clear hD hE)|(at_builtin;refine AL rfl _ _ 81 rfl w.heap.size 9 i0 _ 1 16 Tryz.underlying81 HI.out.1 HI.out.2.1 HI.out.2.2.1 HI.out.2.2.2 rfl (by decide) _ _ _ rfl HO.out _ _ _ _ rfl HN.out.1 HN.out.2.1 HN.out.2.2.1 HN.out.2.2.2 (by unfold maxLen;omega) (by omega) HB.out.size ?_;intro v9 w9 hK hL hO;have hM:=qh hK;have hN:=qh (HB.out.grown hL HB.out.size (λk hk=>(HO.out.lt k hk).1));clear hK hL hO HO HB HN;have HO:=hM;have HB:=hN;clear hM hN));go_ret;refine ⟨_,rfl,?_,HB.out⟩;rw [show refWords.length=46 from rfl,show refWords.map sv=wordsA.map sv++wordsB.map sv++wordsC.map sv++wordsD.map sv++wordsE.map sv by unfold refWords;simp only [List.map_append]];exact HO.out
theorem Sd{w w':World}{v:Value}{xs:List Nm}{n:Nat}(hn:xs.length=n)(h0:0<n)(ho:w'.ownsRow w.heap.size 9 1 v xs.length (xs.map sv)) :
  ∃g c,v=.slice (some ⟨g,0,none⟩) n c∧∀j nm,xs[j]?=some nm→w'.cell? ⟨g,j,none⟩=some (sv nm):=by
 obtain ⟨ao,c,rfl,hf,_,_,_,hc⟩:=GF (by decide) ho;obtain ⟨e,_,_⟩:=hf.resolve_left (by omega);refine ⟨blk ao,c,by rw [hn,← e],λj nm hj=>?_⟩;have:=hc j (sv nm) (by rw [List.getElem?_map,hj];rfl)
 rwa [Nat.zero_add] at this
theorem TX(s:Nm)(w:World):Calls Tryz.prog 100 #[sv s] w λe w'=>e=.returned (.bool (decide (s∈refWords)))∧Below w.heap.size w w':=by
 have HC:=qh (Od w);unfold MU at HC;go_enter Tryz.func100,Tryz.ntmps100
 go_wp2_with (first|(go_at_call 114;refine HC.out.mono ?_;rintro e w2 ⟨v2,rfl,hB,hC⟩;obtain ⟨g,c,rfl,hA⟩:=Sd (n:=46) rfl (by decide) hB;have HB:=qh hC;have HR:=qh hA;clear hB hC hA)|(go_at_call 113;refine (R6 refWords _ 46 _ _ _ HR.out rfl (by unfold maxLen;decide)).mono ?_;rintro e w3 ⟨⟨k,rfl,hk⟩,rfl⟩;have HK:=qh hk;clear hk));go_ret;refine ⟨AT ?_,HB.out⟩;rw [Bool.eq_iff_iff,decide_eq_true_eq,decide_eq_true_eq];exact HK.out
theorem Jm:∀(s r:Nm),(∀c∈s,c≠32)→(s++[32]) <+: r→r.takeWhile (λc=>c != 32)=s
 | [],r,_,⟨t,h⟩=>by
  rw [← h];rfl
 | c::s,r,hc,⟨t,h⟩=>by
  rw [← h,List.cons_append,List.cons_append,List.takeWhile_cons_of_pos (by simpa using hc c (by simp))];rw [Jm s ((s++[32])++t) (λx hx=>hc x (by simp [hx])) ⟨t,rfl⟩]
theorem Kd:(List.range words.length).all (λp=>words.getD p 0 != 32||((words.drop (p+1)).takeWhile (λc=>c != 32)==[]||refWords.contains ((words.drop (p+1)).takeWhile (λc=>c != 32))))=true:=by kernel_rfl
theorem PH{s:Nm}(h1:Bf s=true)(h2:s∉refWords):Av s=true:=by
 unfold Av;rw [h1]
 cases hc:Lib.contains words (32::(s++[32])) with
 | false=>rfl
 | true =>
  exfalso;unfold Lib.contains at hc;have hc:=of_decide_eq_true hc;rcases Lib.index_spec words (32::(s++[32])) with ⟨h,_⟩|⟨i,_,hi,ho,_⟩
  ·omega
  ·unfold Lib.occAt at ho
   obtain ⟨t,ht⟩:=List.isPrefixOf_iff_prefix.1 ho
   have hC:i<words.length:=by
    rcases Nat.lt_or_ge i words.length with h|h
    ·exact h
    ·rw [List.drop_of_length_le h] at ht;simp at ht
   have hA:=List.drop_eq_getElem_cons hC;rw [hA,List.cons_append] at ht;injection ht with e1 e2;have hw:words.getD i 0=32:=by rw [List.getD_eq_getElem?_getD,qg hC];exact e1.symm
   have hD:∀c∈s,c≠32:=λc hc e=>by
    subst e;unfold Bf at h1;simp only [Bool.and_eq_true] at h1;have:=List.all_eq_true.1 h1.2 32 hc
    revert this
    decide
   have hE:=Jm s (words.drop (i+1)) hD ⟨t,e2⟩;have hB:=List.all_eq_true.1 Kd i (List.mem_range.2 hC);rw [hE,hw] at hB;rcases (by simpa using hB:s=[]∨s∈refWords) with e|e
   ·rw [e] at h1;cases h1
   ·exact h2 e
theorem F8{α:Type}{l:List α}{k:Nat}{x:α}(h:l[k]?=some x):l.drop k=x::l.drop (k+1):=by
 obtain ⟨h1,h2⟩:=ql.1 h;rw [← h2];exact List.drop_eq_getElem_cons h1
theorem Cm{w:World}{b:Nat}:∀{o:Nat} {ps:List Ph} {i:Nat} {p:Ph},Bd w b o ps→ps[i]?=some p→w.cell? ⟨b,o+i*2,none⟩=some (sv p.name)∧w.cell? ⟨b,o+i*2+1,none⟩=some p.val
 | _,[],_,_,_,h=>by cases h
 | o,_::_,0,_,⟨⟨h1,h2,_⟩,_⟩,h=>by cases h;simpa using ⟨h1,h2⟩
 | o,_::r,i+1,p,⟨_,h⟩,hi=>by
  have:=Cm (ps:=r) (i:=i) h (by simpa using hi);rw [show o+(i+1)*2=o+2+i*2 by omega];exact this
def Kh(l:List Nm)(w:World)(e:Ending)(w':World):Prop :=
 ((l.all Av=true∧∃b,w.heap.size≤b∧e=.returned (.map (some b))∧MapAt sv w' b (AU l))∨(l.all Av=false∧e=Ai 170))∧Below w.heap.size w w'
theorem Sg(xs:List Rol)(ao:Option Addr)(c:Nat)(w:World)(he:Env w)(hx:IsRow LD 4 w (.slice ao xs.length c) xs) :
  Calls Tryz.prog 59 #[.slice ao xs.length c,.func (.func 60) #[] #[]] w (Kh (xs.map Rol.name) w):=by
 obtain ⟨_,_,_,hW,_⟩:=id hx;unfold maxLen at hW
 have hA:∀(i:Nat) (x:Rol),xs[i]?=some x→∃b o,ao=some ⟨b,o,none⟩∧AtRow LD 4 w b o xs:=λi x h=>by
  obtain ⟨b,o,h1,h2,_⟩:=IsRow.block hx h;exact ⟨b,o,h1,h2⟩
 have hX:=qh hA;clear hA;have hw:=@run_makeMap Tryz.prog;have hM0:MapAt sv (w.alloc (.map #[] 0)) w.heap.size []:=MapAt.new w;have hf:Below w.heap.size w (w.alloc (.map #[] 0)):=(Below.refl _ w).alloc (qn _) _;generalize hJ:AU (xs.map Rol.name)=tab;have hL:=qh hJ;have HE:=qh he;have hm:=qh hM0;have ho:=qh hf;clear hx he hM0 hf hJ;generalize hn:xs.length=n at *;have HN:=qh hn;clear hn;unfold Kh;go_enter Tryz.func59,Tryz.ntmps59;go_wp2_with fail;generalize w.alloc (.map #[] 0)=w1 at *;go_loopw [12] (λiv wr=>∃(i:Nat) (kvs:List (Nm×Value)),iv=int i64 i∧i≤n∧Hid (DC ((xs.drop i).map Rol.name) i kvs=tab)∧Hid (((xs.take i).map Rol.name).all Av=true)∧Hid (MapAt sv wr w.heap.size kvs)∧Hid (AD kvs)∧Hid (Below w.heap.size w wr)) (λiv _=>n+1-(intOf iv).toNat)
 case atStart=>exact ⟨0,[],rfl,Nat.zero_le _,hL,qh (by simp),hm,qh List.nodup_nil,ho⟩
 case round =>
  obtain ⟨i,kvs,rfl,hy,hg,hN,hM,hK,hF⟩:=hrel;by_cases hh:i<n
  ·have hi:(i:Int)<(n:Int):=by omega
   obtain ⟨x,hB⟩:∃x,xs[i]?=some x:=⟨_,qg (by rw [HN.out];exact hh)⟩;have hC:xs.drop i=x::xs.drop (i+1):=F8 hB;have hD:xs.take (i+1)=xs.take i++[x]:=by rw [List.take_add_one,hB];rfl
   have hp:=qh hC;have hq:=qh hD;have hz:=qh hB;obtain ⟨b,o,hr,hA⟩:=hX.out i x hB;subst hr;have q0:=Ac hF.out (hA i x hB 0 _ rfl);have q1:=Ac hF.out (hA i x hB 1 _ rfl);have q2:=Ac hF.out (hA i x hB 2 _ rfl);have q3:=Ac hF.out (hA i x hB 3 _ rfl);simp only [Nat.add_zero] at q0;clear hA;have hj:x∈xs:=List.mem_of_getElem? hB;have hs:=qh hj;clear hC hD hB hj;obtain ⟨w2,hO⟩:∃w2,wr.alloc (.cells #[sv x.name,int i64 x.x,int i64 x.y,int i64 x.face] 60)=w2:=⟨_,rfl⟩;have hY:Below wr.heap.size wr w2:=by rw [← hO];exact (Below.refl _ _).alloc (qn _) _
   have d0:w2.cell? ⟨wr.heap.size,0,none⟩=some (sv x.name):=by rw [← hO];exact Aa (heap_alloc_new wr _) 0 rfl
   have d1:w2.cell? ⟨wr.heap.size,1,none⟩=some (int i64 x.x):=by rw [← hO];exact Aa (heap_alloc_new wr _) 1 rfl
   have d2:w2.cell? ⟨wr.heap.size,2,none⟩=some (int i64 x.y):=by rw [← hO];exact Aa (heap_alloc_new wr _) 2 rfl
   have d3:w2.cell? ⟨wr.heap.size,3,none⟩=some (int i64 x.face):=by rw [← hO];exact Aa (heap_alloc_new wr _) 3 rfl
   have hH:=qh (hF.out.trans (hY.mono hF.out.size));have hk:=qh (hM.out.below hY hM.out.lt);clear hY
   have hP:Av (x.name)=false→(xs.map Rol.name).all Av=false:=λh=>by
    rw [List.all_eq_false];exact ⟨_,List.mem_map.2 ⟨x,hs.out,rfl⟩,by simp [h]⟩
   have hQ:=qh hP;clear hP;by_cases hG:Bf (x.name)=true
   ·have h0:=EY hG
    by_cases hU:Lib.contains words (32::((x.name)++[32]))=true
    ·have hE:Av (x.name)=false:=by unfold Av;rw [hG,hU];rfl
     have hR:=qh (hQ.out hE);clear hE
     go_wp2_with (first
      | (go_at_call 60;refine (LU _ _ _ _ _).mono ?_;rintro e w3 ⟨rfl,hI⟩;have hZ:Below w.heap.size w w3:=hH.out.trans (hI.mono hH.out.size))
      | (go_at_call 88;refine (CJ _ _).mono ?_;rintro e w4 ⟨rfl,rfl⟩;rw [hG])
      | (go_at_call 89;refine (Cb _ _ (HE.out.below (by assumption))).mono ?_;rintro e w5 ⟨rfl,rfl⟩;rw [hU])
      | (go_at_call 63;refine (AS _ _).mono ?_;unfold Ai;rintro e w6 ⟨rfl,rfl⟩))
     exact ⟨rfl,Or.inr ⟨hR.out,rfl⟩,by assumption⟩
    ·have hS:Lib.contains words (32::((x.name)++[32]))=false:=by simpa using hU
     have hE:Av (x.name)=true:=by unfold Av;rw [hG,hS];rfl
     have hR:=qh hE;clear hE hU
     go_wp2_with (first
      | (go_at_call 60;refine (LU _ _ _ _ _).mono ?_;rintro e w3 ⟨rfl,hI⟩;have hZ:Below w.heap.size w w3:=hH.out.trans (hI.mono hH.out.size))
      | (go_at_call 88;refine (CJ _ _).mono ?_;rintro e w4 ⟨rfl,rfl⟩;rw [hG])
      | (go_at_call 89;refine (Cb _ _ (HE.out.below (by assumption))).mono ?_;rintro e w5 ⟨rfl,rfl⟩;rw [hS])
      | (go_at_call 63;refine (BG _ _).mono ?_;rintro e w6 ⟨rfl,rfl⟩;obtain ⟨ob,ht,hl⟩:=AF (P:=Tryz.prog) (T:=106) K7 Tryz.underlying106 Tryz.underlying9 (hk.out.below hI hk.out.lt) hK.out x.name (int i64 i);have ha:=qh hl;have hb:=qh (hZ.trans (Ap _ w.heap.size ob (qn _)));clear hl))
     go_roundw
     case rel=>exact ⟨i+1,Bj kvs (x.name) (int i64 i),by go_num,hh,qh (by have:=hg.out;rw [hp.out] at this;exact this),qh (by rw [hq.out,List.map_append,List.all_append,hN.out];simp [hR.out]),ha.out,qh (AO hK.out _ _),hb.out⟩
     case measure=>simp [intOf];omega
   ·have hT:Bf (x.name)=false:=by simpa using hG
    have hE:Av (x.name)=false:=by unfold Av;rw [hT];rfl
    have hR:=qh (hQ.out hE);clear hE hG
    go_wp2_with (first
     | (go_at_call 60;refine (LU _ _ _ _ _).mono ?_;rintro e w3 ⟨rfl,hI⟩;have hZ:Below w.heap.size w w3:=hH.out.trans (hI.mono hH.out.size))
     | (go_at_call 88;refine (CJ _ _).mono ?_;rintro e w4 ⟨rfl,rfl⟩;rw [hT])
     | (go_at_call 63;refine (AS _ _).mono ?_;unfold Ai;rintro e w6 ⟨rfl,rfl⟩))
    exact ⟨rfl,Or.inr ⟨hR.out,rfl⟩,by assumption⟩
  ·obtain rfl:i=n:=by omega
   have hc:=hM.out;have hV:=hg.out;have hd:=hN.out;rw [List.drop_eq_nil_of_le (by rw [HN.out];exact qn _)] at hV;rw [List.take_of_length_le (by rw [HN.out];exact qn _)] at hd;simp only [List.map_nil,DC] at hV;rw [hV] at hc;have hu:=qh hc;have hv:=qh hd;clear hc hV hd;go_wp2_with fail;go_ret;exact ⟨Or.inl ⟨hv.out,w.heap.size,qn _,rfl,by rw [hL.out];exact hu.out⟩,hF.out⟩
theorem Sh(xs:List Ph)(ao:Option Addr)(c:Nat)(w:World)(he:Env w)(hx:(xs=[]∨ao=some ⟨blk ao,off ao,none⟩)∧xs.length≤maxLen∧Bd w (blk ao) (off ao) xs) :
  Calls Tryz.prog 61 #[.slice ao xs.length c,.func (.func 62) #[] #[]] w (Kh (xs.map Ph.name) w):=by
 obtain ⟨hA,hW,hg⟩:=hx;unfold maxLen at hW
 have hI:∀(i:Nat) (x:Ph),xs[i]?=some x→∃b o,ao=some ⟨b,o,none⟩∧w.cell? ⟨b,o+i*2,none⟩=some (sv x.name)∧w.cell? ⟨b,o+i*2+1,none⟩=some x.val:=λi x h=>by
  obtain ⟨h1,h2⟩:=Cm hg h;refine ⟨_,_,hA.resolve_left (λe=>by rw [e] at h;cases h),h1,h2⟩
 have hX:=qh hI;clear hI hg hA;have hz:=@run_makeMap Tryz.prog;have hM0:MapAt sv (w.alloc (.map #[] 0)) w.heap.size []:=MapAt.new w;have hh:Below w.heap.size w (w.alloc (.map #[] 0)):=(Below.refl _ w).alloc (qn _) _;generalize hJ:AU (xs.map Ph.name)=tab;have hL:=qh hJ;have HE:=qh he;have hp:=qh hM0;have hq:=qh hh;clear he hM0 hh hJ;generalize hn:xs.length=n at *;have HN:=qh hn;clear hn;unfold Kh;go_enter Tryz.func61,Tryz.ntmps61;go_wp2_with fail;generalize w.alloc (.map #[] 0)=w1 at *;go_loopw [12] (λiv wr=>∃(i:Nat) (kvs:List (Nm×Value)),iv=int i64 i∧i≤n∧Hid (DC ((xs.drop i).map Ph.name) i kvs=tab)∧Hid (((xs.take i).map Ph.name).all Av=true)∧Hid (MapAt sv wr w.heap.size kvs)∧Hid (AD kvs)∧Hid (Below w.heap.size w wr)) (λiv _=>n+1-(intOf iv).toNat)
 case atStart=>exact ⟨0,[],rfl,Nat.zero_le _,hL,qh (by simp),hp,qh List.nodup_nil,hq⟩
 case round =>
  obtain ⟨i,kvs,rfl,h0,hj,hN,hM,hK,hO⟩:=hrel;by_cases hk:i<n
  ·have hi:(i:Int)<(n:Int):=by omega
   obtain ⟨x,hF⟩:∃x,xs[i]?=some x:=⟨_,qg (by rw [HN.out];exact hk)⟩;have hB:xs.drop i=x::xs.drop (i+1):=F8 hF;have hC:xs.take (i+1)=xs.take i++[x]:=by rw [List.take_add_one,hF];rfl
   have hr:=qh hB;have hs:=qh hC;have h3:=qh hF;obtain ⟨b,o,ht,r0,r1⟩:=hX.out i x hF;subst ht;have q0:=Ac hO.out r0;have q1:=Ac hO.out r1;unfold Ph.val at q1;clear r0 r1;have hl:x∈xs:=List.mem_of_getElem? hF;have hu:=qh hl;clear hB hC hF hl;obtain ⟨w2,hY⟩:∃w2,wr.alloc (.cells #[sv x.name,.slice x.ia x.its.len x.ic] 51)=w2:=⟨_,rfl⟩;have hZ:Below wr.heap.size wr w2:=by rw [← hY];exact (Below.refl _ _).alloc (qn _) _
   have d0:w2.cell? ⟨wr.heap.size,0,none⟩=some (sv x.name):=by rw [← hY];exact Aa (heap_alloc_new wr _) 0 rfl
   have d1:w2.cell? ⟨wr.heap.size,1,none⟩=some (.slice x.ia x.its.len x.ic):=by rw [← hY];exact Aa (heap_alloc_new wr _) 1 rfl
   have hG:=qh (hO.out.trans (hZ.mono hO.out.size));have hm:=qh (hM.out.below hZ hM.out.lt);clear hZ
   have hP:Av (x.name)=false→(xs.map Ph.name).all Av=false:=λh=>by
    rw [List.all_eq_false];exact ⟨_,List.mem_map.2 ⟨x,hu.out,rfl⟩,by simp [h]⟩
   have hQ:=qh hP;clear hP;by_cases hE:Bf (x.name)=true
   ·have h4:=EY hE
    by_cases hU:Lib.contains words (32::((x.name)++[32]))=true
    ·have hD:Av (x.name)=false:=by unfold Av;rw [hE,hU];rfl
     have hR:=qh (hQ.out hD);clear hD
     go_wp2_with (first
      | (go_at_call 62;refine (LV _ _ _ _ _).mono ?_;rintro e w3 ⟨rfl,hH⟩;have ha:Below w.heap.size w w3:=hG.out.trans (hH.mono hG.out.size))
      | (go_at_call 88;refine (CJ _ _).mono ?_;rintro e w4 ⟨rfl,rfl⟩;rw [hE])
      | (go_at_call 89;refine (Cb _ _ (HE.out.below (by assumption))).mono ?_;rintro e w5 ⟨rfl,rfl⟩;rw [hU])
      | (go_at_call 63;refine (AS _ _).mono ?_;unfold Ai;rintro e w6 ⟨rfl,rfl⟩))
     exact ⟨rfl,Or.inr ⟨hR.out,rfl⟩,by assumption⟩
    ·have hS:Lib.contains words (32::((x.name)++[32]))=false:=by simpa using hU
     have hD:Av (x.name)=true:=by unfold Av;rw [hE,hS];rfl
     have hR:=qh hD;clear hD hU
     go_wp2_with (first
      | (go_at_call 62;refine (LV _ _ _ _ _).mono ?_;rintro e w3 ⟨rfl,hH⟩;have ha:Below w.heap.size w w3:=hG.out.trans (hH.mono hG.out.size))
      | (go_at_call 88;refine (CJ _ _).mono ?_;rintro e w4 ⟨rfl,rfl⟩;rw [hE])
      | (go_at_call 89;refine (Cb _ _ (HE.out.below (by assumption))).mono ?_;rintro e w5 ⟨rfl,rfl⟩;rw [hS])
      | (go_at_call 63;refine (BG _ _).mono ?_;rintro e w6 ⟨rfl,rfl⟩;obtain ⟨ob,hv,ho⟩:=AF (P:=Tryz.prog) (T:=106) K7 Tryz.underlying106 Tryz.underlying9 (hm.out.below hH hm.out.lt) hK.out x.name (int i64 i);have hb:=qh ho;have hc:=qh (ha.trans (Ap _ w.heap.size ob (qn _)));clear ho))
     go_roundw
     case rel=>exact ⟨i+1,Bj kvs (x.name) (int i64 i),by go_num,hk,qh (by have:=hj.out;rw [hr.out] at this;exact this),qh (by rw [hs.out,List.map_append,List.all_append,hN.out];simp [hR.out]),hb.out,qh (AO hK.out _ _),hc.out⟩
     case measure=>simp [intOf];omega
   ·have hT:Bf (x.name)=false:=by simpa using hE
    have hD:Av (x.name)=false:=by unfold Av;rw [hT];rfl
    have hR:=qh (hQ.out hD);clear hD hE
    go_wp2_with (first
     | (go_at_call 62;refine (LV _ _ _ _ _).mono ?_;rintro e w3 ⟨rfl,hH⟩;have ha:Below w.heap.size w w3:=hG.out.trans (hH.mono hG.out.size))
     | (go_at_call 88;refine (CJ _ _).mono ?_;rintro e w4 ⟨rfl,rfl⟩;rw [hT])
     | (go_at_call 63;refine (AS _ _).mono ?_;unfold Ai;rintro e w6 ⟨rfl,rfl⟩))
    exact ⟨rfl,Or.inr ⟨hR.out,rfl⟩,by assumption⟩
  ·obtain rfl:i=n:=by omega
   have hd:=hM.out;have hV:=hj.out;have hf:=hN.out;rw [List.drop_eq_nil_of_le (by rw [HN.out];exact qn _)] at hV;rw [List.take_of_length_le (by rw [HN.out];exact qn _)] at hf;simp only [List.map_nil,DC] at hV;rw [hV] at hd;have hw:=qh hd;have hy:=qh hf;clear hd hV hf;go_wp2_with fail;go_ret;exact ⟨Or.inl ⟨hy.out,w.heap.size,qn _,rfl,by rw [hL.out];exact hw.out⟩,hO.out⟩
theorem Sf(xs:List Nm)(ao:Option Addr)(c:Nat)(w:World)(he:Env w)(hx:∃b o,ao=some ⟨b,o,none⟩∧xs.length≤maxLen∧∀(i:Nat) (x:Nm),xs[i]?=some x→w.cell? ⟨b,o+i,none⟩=some (sv x)) :
  Calls Tryz.prog 57 #[.slice ao xs.length c,.func (.func 58) #[] #[]] w (Kh (xs.map id) w):=by
 obtain ⟨b,o,hh,hS,hF⟩:=hx;subst hh;unfold maxLen at hS;have hT:=qh hF;clear hF;have ht:=@run_makeMap Tryz.prog;have hM0:MapAt sv (w.alloc (.map #[] 0)) w.heap.size []:=MapAt.new w;have hb:Below w.heap.size w (w.alloc (.map #[] 0)):=(Below.refl _ w).alloc (qn _) _;generalize hG:AU (xs.map id)=tab;have hH:=qh hG;have HE:=qh he;have hj:=qh hM0;have hk:=qh hb;clear he hM0 hb hG;generalize hn:xs.length=n at *;have HN:=qh hn;clear hn;unfold Kh;go_enter Tryz.func57,Tryz.ntmps57;go_wp2_with fail;generalize w.alloc (.map #[] 0)=w1 at *;go_loopw [12] (λiv wr=>∃(i:Nat) (kvs:List (Nm×Value)),iv=int i64 i∧i≤n∧Hid (DC ((xs.drop i).map id) i kvs=tab)∧Hid (((xs.take i).map id).all Av=true)∧Hid (MapAt sv wr w.heap.size kvs)∧Hid (AD kvs)∧Hid (Below w.heap.size w wr)) (λiv _=>n+1-(intOf iv).toNat)
 case atStart=>exact ⟨0,[],rfl,Nat.zero_le _,hH,qh (by simp),hj,qh List.nodup_nil,hk⟩
 case round =>
  obtain ⟨i,kvs,rfl,hu,hc,hI,hM,hK,hU⟩:=hrel;by_cases hd:i<n
  ·have hi:(i:Int)<(n:Int):=by omega
   obtain ⟨x,hE⟩:∃x,xs[i]?=some x:=⟨_,qg (by rw [HN.out];exact hd)⟩;have hA:xs.drop i=x::xs.drop (i+1):=F8 hE;have hB:xs.take (i+1)=xs.take i++[x]:=by rw [List.take_add_one,hE];rfl
   have hl:=qh hA;have hm:=qh hB;have hv:=qh hE;have q0:=Ac hU.out (hT.out i x hE);have hf:x∈xs:=List.mem_of_getElem? hE;have ho:=qh hf;clear hA hB hE hf;have hV:=hU;have hp:=hM
   have hJ:Av (x)=false→(xs.map id).all Av=false:=λh=>by
    rw [List.all_eq_false];exact ⟨_,List.mem_map.2 ⟨x,ho.out,rfl⟩,by simp [h]⟩
   have hL:=qh hJ;clear hJ;by_cases hD:Bf (x)=true
   ·have hw:=EY hD
    by_cases hQ:Lib.contains words (32::((x)++[32]))=true
    ·have hC:Av (x)=false:=by unfold Av;rw [hD,hQ];rfl
     have hN:=qh (hL.out hC);clear hC
     go_wp2_with (first
      | (go_at_call 58;refine (LT _ _).mono ?_;rintro e w3 ⟨rfl,rfl⟩;have hW:Below w.heap.size w wr:=hV.out)
      | (go_at_call 88;refine (CJ _ _).mono ?_;rintro e w4 ⟨rfl,rfl⟩;rw [hD])
      | (go_at_call 89;refine (Cb _ _ (HE.out.below (by assumption))).mono ?_;rintro e w5 ⟨rfl,rfl⟩;rw [hQ])
      | (go_at_call 63;refine (AS _ _).mono ?_;unfold Ai;rintro e w6 ⟨rfl,rfl⟩))
     exact ⟨rfl,Or.inr ⟨hN.out,rfl⟩,by assumption⟩
    ·have hO:Lib.contains words (32::((x)++[32]))=false:=by simpa using hQ
     have hC:Av (x)=true:=by unfold Av;rw [hD,hO];rfl
     have hN:=qh hC;clear hC hQ
     go_wp2_with (first
      | (go_at_call 58;refine (LT _ _).mono ?_;rintro e w3 ⟨rfl,rfl⟩;have hW:Below w.heap.size w wr:=hV.out)
      | (go_at_call 88;refine (CJ _ _).mono ?_;rintro e w4 ⟨rfl,rfl⟩;rw [hD])
      | (go_at_call 89;refine (Cb _ _ (HE.out.below (by assumption))).mono ?_;rintro e w5 ⟨rfl,rfl⟩;rw [hO])
      | (go_at_call 63;refine (BG _ _).mono ?_;rintro e w6 ⟨rfl,rfl⟩;obtain ⟨ob,hq,hg⟩:=AF (P:=Tryz.prog) (T:=106) K7 Tryz.underlying106 Tryz.underlying9 hp.out hK.out x (int i64 i);have hX:=qh hg;have hY:=qh (hW.trans (Ap _ w.heap.size ob (qn _)));clear hg))
     go_roundw
     case rel=>exact ⟨i+1,Bj kvs (x) (int i64 i),by go_num,hd,qh (by have:=hc.out;rw [hl.out] at this;exact this),qh (by rw [hm.out,List.map_append,List.all_append,hI.out];simp [hN.out]),hX.out,qh (AO hK.out _ _),hY.out⟩
     case measure=>simp [intOf];omega
   ·have hP:Bf (x)=false:=by simpa using hD
    have hC:Av (x)=false:=by unfold Av;rw [hP];rfl
    have hN:=qh (hL.out hC);clear hC hD
    go_wp2_with (first
     | (go_at_call 58;refine (LT _ _).mono ?_;rintro e w3 ⟨rfl,rfl⟩;have hW:Below w.heap.size w wr:=hV.out)
     | (go_at_call 88;refine (CJ _ _).mono ?_;rintro e w4 ⟨rfl,rfl⟩;rw [hP])
     | (go_at_call 63;refine (AS _ _).mono ?_;unfold Ai;rintro e w6 ⟨rfl,rfl⟩))
    exact ⟨rfl,Or.inr ⟨hN.out,rfl⟩,by assumption⟩
  ·obtain rfl:i=n:=by omega
   have hZ:=hM.out;have hR:=hc.out;have ha:=hI.out;rw [List.drop_eq_nil_of_le (by rw [HN.out];exact qn _)] at hR;rw [List.take_of_length_le (by rw [HN.out];exact qn _)] at ha;simp only [List.map_nil,DC] at hR;rw [hR] at hZ;have hr:=qh hZ;have hs:=qh ha;clear hZ hR ha;go_wp2_with fail;go_ret;exact ⟨Or.inl ⟨hs.out,w.heap.size,qn _,rfl,by rw [hH.out];exact hr.out⟩,hU.out⟩
end
end Go.Proofs.YtpnbpepkoekkoaaGreat
