/- The walk of the statement: part 4. -/
import Derived.Test.YtbkemlgfdklpfaaGreatDoorYLM4p3
import Derived.Test.YtbkemlgfdklpfaaGreatDoorZ31
import Derived.Test.YtbkemlgfdklpfaaGreatDoorZ40
import Derived.Test.YtbkemlgfdklpfaaGreatDoorZ15
import Derived.Test.YtbkemlgfdklpfaaGreatDoorYLM4p1
import Derived.Test.YtbkemlgfdklpfaaGreatDoorYLM4p2
import Derived.Test.YtbkemlgfdklpfaaGreatDoorZ34
import Derived.Test.YtbkemlgfdklpfaaGreatDoorZ41
import Derived.Deep.MidRow
import Derived.Test.YtbkemlgfdklpfaaGreatDoorZ4
set_option linter.unusedVariables false
set_option linter.unusedSimpArgs false
set_option maxRecDepth 100000
set_option maxHeartbeats 16000000
namespace Go.Proofs.YtbkemlgfdklpfaaGreatDoor
open Go.Value (int)
open Go.IntKind (i64)
section
open Go Go.RowKit Go.Shelf Go.Deep
abbrev DanN:=Dan×Int×Int
def DanN.flip(x:DanN):DanN:=(x.1.flip,x.2)
theorem VZ{w:World}{b:Nat}:∀{o:Nat} {ds:List Dan} {ks:List Int},Bq w b o ds→NsAt w (An b o ds) ks→∃xs:List DanN,xs.map (·.1)=ds∧(xs.flatMap λx=>[x.2.1,x.2.2])=ks∧AtRow Tv 6 w b o xs
 | _,[],[],_,_=>⟨[],rfl,rfl,λi x hx=>by cases hx⟩
 | o,d::r,n::k::ks,⟨⟨h0,h2,h4,h5⟩,hr⟩,⟨h1,h3,hk⟩=>by
  obtain ⟨xs,e1,e2,hA⟩:=VZ hr hk;refine ⟨(d,n,k)::xs,by simp [e1],by simp [e2],λi x hx j v hv=>?_⟩
  cases i with
  | zero =>
   cases hx;rw [Nat.zero_mul,Nat.add_zero]
   match j,hv with
   | 0,hv=>cases hv;exact h0
   | 1,hv=>cases hv;exact h1
   | 2,hv=>cases hv;exact h2
   | 3,hv=>cases hv;exact h3
   | 4,hv=>cases hv;exact h4
   | 5,hv=>cases hv;exact h5
   | j+6,hv=>simp [Tv] at hv
  | succ i =>
   have:=hA i x (by simpa using hx) j v hv;rw [show o+(i+1)*6+j=o+6+i*6+j by omega];exact this
theorem Wy{s:Ls}{w V:World}{k1:List Int}{G c:Nat}{xs:List DanN}(hA:s.At w)(hN:NsAt w (Ap s.phrases) k1)(hb:Below w.heap.size w V)(hx:xs.map (·.1)=s.dances)(h:AtRow Tv 6 V G 0 (xs.map DanN.flip)):(s.flipD (some ⟨G,0,none⟩) c).At V∧NsAt V (s.flipD (some ⟨G,0,none⟩) c).refs (k1++xs.flatMap λx=>[x.2.1,x.2.2]):=by
 have hA:=hA.below hb;obtain ⟨h1,h2⟩:=ES h
 have e:(xs.map DanN.flip).map (·.1)=s.dances.map Dan.flip:=by
  rw [List.map_map,← hx,List.map_map];rfl
 have e2:((xs.map DanN.flip).flatMap λx=>[x.2.1,x.2.2])=xs.flatMap λx=>[x.2.1,x.2.2]:=by
  rw [List.flatMap_map];rfl
 rw [e] at h1 h2;rw [e2] at h2;refine ⟨⟨hA.roles,hA.tempos,hA.pauses,hA.spans,hA.pform,hA.plen,hA.phrases,Or.inr rfl,?_,h1⟩,(hN.below hb).append h2⟩
 show (s.dances.map Dan.flip).length≤maxLen
 rw [List.length_map];exact hA.dlen
theorem Wq(w:World)(B:Nat)(e:TypeId)(size:Nat)(hB:B≤w.heap.size):(w.alloc (.cells #[] e)).ownsRow B e size (.slice (some ⟨w.heap.size,0,none⟩) 0 0) 0 [] :=
 ⟨by simp,Or.inr ⟨w.heap.size,0,#[],rfl,hB,heap_alloc_new w _,qn _,Nat.zero_le _,by simp,by simp⟩⟩
theorem Wr{w:World}{B e k n:Nat}{v:Value}{xs:List Value}(h:w.ownsRow B e k v n xs)(hv:∃g,v.ownBlock=some g):∃g c,v=.slice (some ⟨g,0,none⟩) n c∧B≤g∧FreeB w g∧∀j u,xs[j]?=some u→w.cell? ⟨g,j,none⟩=some u:=by
 rcases h.2 with ⟨rfl,rfl⟩|⟨g,cap,cur,rfl,hg,hh,_⟩
 ·obtain ⟨g,hg⟩:=hv;cases hg
 ·refine ⟨g,cap,rfl,hg,⟨cur,_,hh⟩,λj u hj=>?_⟩
  have:=h.cells (g:=g) rfl j u hj;rw [AN,Nat.zero_add] at this;exact this
theorem VT(x:DanN):(Tv x).length=6:=rfl
theorem Wu(xs:List DanN):∀u∈xs.flatMap Tv,u.oneCell'=true:=λu hu=>by
 obtain ⟨s,_,hs⟩:=List.mem_flatMap.1 hu;simp only [Tv,List.mem_cons,List.not_mem_nil,or_false] at hs;rcases hs with rfl|rfl|rfl|rfl|rfl|rfl<;>rfl
theorem WA:∃i,Tryz.prog.info? 64=some i∧i.zero=some (.agg #[.string ⟨#[]⟩,int i64 0,.string ⟨#[]⟩,int i64 0,int i64 0,.bool false])∧i.size=6∧i.bytes=64:=by
 have h:=TH
 cases hi:Tryz.prog.info? 64 with
 | none=>rw [hi] at h;cases h
 | some i =>
  rw [hi] at h;simp only [Option.map_some,Option.some.injEq,Prod.mk.injEq] at h;exact ⟨i,rfl,h.1,h.2.1,h.2.2⟩
theorem Wk{s:Ls}{ns:List Int}(h:Bc s ns=0):s.dances.length≤256:=by
 obtain ⟨hl,_⟩:=E9 (Le h).1;unfold Sc.lims Sc.fit at hl;simp only [Bool.and_eq_true,decide_eq_true_eq] at hl;exact hl.1.2.2.2.2.2
structure MiW(A:World)(s:Ls)(X5 G cG n:Nat)(ys:List DanN)(W:World):Prop where
 base:Below A.heap.size A W
 box:W.heap[X5]?=some (.cells (s.flipD (some ⟨G,0,none⟩) cG).cells 30 (0,0))
 row:RowV Tv W G ys
 free:FreeB W G
 len:ys.length=n
 lowG:A.heap.size≤G
 ne:X5≠G
theorem MiW.set{A:World}{s:Ls}{X5 G cG n:Nat}{ys:List DanN}{W:World}(h:MiW A s X5 G cG n ys W){i:Nat}{x:DanN}(hx:ys[i]?=some x):MiW A s X5 G cG n (ys.set i x.flip) (W.setCell ⟨G,i*6+5,none⟩ (.bool (!x.1.mirror))):=by
 have hi:=(ql.1 hx).1;have hc:∀r u,(Tv x)[r]?=some u→W.cell? ⟨G,i*6+r,none⟩=some u:=λr u hr=>h.row.get VT hx hr
 refine ⟨h.base.setCell (p:=⟨G,i*6+5,none⟩) h.lowG _,(AZ _ h.ne).trans h.box,h.row.set VT hi (λr u hr=>?_) (λq u hq hu=>Ac hu (Ar (Or.inr (by omega)))),h.free.set _ _,by simpa using h.len,h.lowG,h.ne⟩
 match r,hr with
 | 0,hr=>cases hr;exact Ac (hc 0 _ rfl) (Ar (Or.inr (by omega)))
 | 1,hr=>cases hr;exact Ac (hc 1 _ rfl) (Ar (Or.inr (by omega)))
 | 2,hr=>cases hr;exact Ac (hc 2 _ rfl) (Ar (Or.inr (by omega)))
 | 3,hr=>cases hr;exact Ac (hc 3 _ rfl) (Ar (Or.inr (by omega)))
 | 4,hr=>cases hr;exact Ac (hc 4 _ rfl) (Ar (Or.inr (by omega)))
 | 5,hr=>cases hr;exact World.cell?_setCell_same _ _ _ (hc 5 _ rfl)
 | r+6,hr=>simp [Tv] at hr
theorem MiW.slot{A:World}{s:Ls}{X5 G cG n:Nat}{ys:List DanN}{W:World}(h:MiW A s X5 G cG n ys W)(hd:s.dances.length=n):W.cell? ⟨X5,11,none⟩=some (.slice (some ⟨G,0,none⟩) n cG):=by
 have h2:W.cell? ⟨X5,11,none⟩=some (.slice (some ⟨G,0,none⟩) (s.dances.map Dan.flip).length cG):=Aa h.box 11 rfl
 rwa [List.length_map,hd] at h2
theorem MiW.drew{A:World}{s:Ls}{X5 G cG n:Nat}{ys:List DanN}{W:World}(h:MiW A s X5 G cG n ys W):MiW A s X5 G cG n ys W.drew:=⟨h.base.trans (Below.refl _ _).drew,h.box,h.row,h.free,h.len,h.lowG,h.ne⟩
def FlpTo(xs ys:List DanN)(j:Nat):Prop:=(∀k,k<j→ys[k]?=xs[k]?.map DanN.flip)∧∀k,j≤k→ys[k]?=xs[k]?
theorem FlpTo.next{xs ys:List DanN}{j:Nat}{x:DanN}(h:FlpTo xs ys j)(hx:ys[j]?=some x):FlpTo xs (ys.set j x.flip) (j+1):=by
 have hj:=(ql.1 hx).1;refine ⟨λk hk=>?_,λk hk=>?_⟩
 ·by_cases e:k=j
  ·subst e
   rw [List.getElem?_set_self hj,← h.2 k (qn _),hx];rfl
  ·rw [List.getElem?_set_ne (by omega)];exact h.1 k (by omega)
 ·rw [List.getElem?_set_ne (by omega)];exact h.2 k (by omega)
theorem FlpTo.all{xs ys:List DanN}{j:Nat}(h:FlpTo xs ys j)(hj:xs.length≤j):ys=xs.map DanN.flip:=by
 apply List.ext_getElem?;intro k;rw [List.getElem?_map];by_cases hk:k<j
 ·exact h.1 k hk
 ·rw [h.2 k (by omega),List.getElem?_eq_none (by omega)];rfl
theorem Wa(s:Ls)(ns:List Int)(w:World)(hA:s.At w)(hN:NsAt w s.refs ns)(hE:∀V,Below w.heap.size w V→Env V∧EnvK V) :
  Calls Tryz.prog 8 #[s.val] w λe w'=>e=.returned (.bool true)∧Below w.heap.size w w':=by
 have HE:=qh hE;have HA:=qh hA;obtain ⟨k1,k2,hw,hp⟩:=We hN;obtain ⟨xs,HR,hR,hB⟩:=VZ hA.dances hp;have hn:=hw.append hp;have Hs:=qh hw;have HN:=qh (show NsAt w s.refs (k1++k2) from hn);have HT:=qh HR;have Ht:=qh hR;have hy:=qh hB;have hv:s.val=.agg s.cells:=rfl;rw [hv];obtain ⟨nD,hz⟩:∃n,s.dances.length=n:=⟨_,rfl⟩;have HD:=qh hz;have h0:nD≤maxLen:=by rw [← hz];exact hA.dlen
 unfold maxLen at h0;obtain ⟨V1,e1,g1,b1,z1⟩:=Ag w s.cells 30;obtain ⟨X,hX⟩:∃X,w.heap.size=X:=⟨_,rfl⟩;rw [hX] at g1;have HX:=qh g1;have HB:=qh b1;have h1:=qh hX;clear g1 b1 z1 hE hA hN hv hz hw hp HR hR hB hn;have st0:True:=trivial;go_enter Tryz.func8,Tryz.ntmps8
 go_wp2_with (first
  | (have q:=st0;clear q;go_at_call 9;refine (Uy _ (λV hV=>HE.out V (Af HB.out hV))).mono ?_;rintro e V2 ⟨rfl,hb⟩;replace HB:=qh (Af HB.out hb);replace HX:=qh (Ah hb HX.out);clear hb;clear st0;have st1:True:=trivial)
  | (have q:=st1;clear q;refine wpList_load_row rfl 30 _ rfl X rfl 30 s.cells (0,0) _ HX.out Tryz.underlying30 rfl (by kernel_rfl) ?_;simp only [Act.put,qD,qE,qF];clear st1;have st2:True:=trivial))
 have hC:Value.agg s.cells=s.val:=rfl;rw [hC];go_at_call 10;refine (Ux s V2 (HA.out.below HB.out)).mono ?_;rintro e V3 ⟨r,rfl,hb⟩
 replace HB:=qh (Af HB.out hb)
 replace HX:=qh (Ah hb HX.out)
 clear hb hC e1
 cases r with
 | false =>
  go_wp2_with fail;go_ret;exact ⟨rfl,by have hq:=HB.out;first|exact hq|(rw [h1.out] at hq;exact hq)⟩
 | true =>
 have st3:True:=trivial
 go_wp2_with (first
  | (have q:=st3;clear q;refine wpList_load_row rfl 30 _ rfl X rfl 30 s.cells (0,0) _ HX.out Tryz.underlying30 rfl (by kernel_rfl) ?_;simp only [Act.put,qD,qE,qF];clear st3;have st4:True:=trivial))
 have hC:Value.agg s.cells=s.val:=rfl;rw [hC];clear hC;go_at_call 11;refine (Wv s (k1++k2) V3 (HA.out.below HB.out) (HN.out.below HB.out) (HE.out V3 HB.out).1).mono ?_;rintro e V9 ⟨hb,hD⟩
 replace HB:=qh (Af HB.out hb);replace HX:=qh (Ah hb HX.out);clear hb
 rcases hD with ⟨k,hk,_,rfl⟩|⟨h2,HU,HV,ra,a0,a1,a2,a3,rc,c0,c1,c2,c3,rfl,hB⟩
 ·have hp:(k==0)=false:=by simpa using hk
  unfold wkZ;obtain ⟨A9,xA9,gA9,bA9,zA9⟩:=Ag V9 #[int i64 0,int i64 0,int i64 0,int i64 0,int i64 0,.slice none 0 0,int i64 0,.slice none 0 0,.slice none 0 0,.slice none 0 0,.slice none 0 0] 39;have G9:=qh gA9;have B9:=qh bA9;clear gA9 bA9 zA9;have st60:True:=trivial
  go_wp2_with (first
   | (have q:=st60;clear q;refine wpList_store_row rfl 39 _ _ rfl V9.heap.size #[int i64 0,int i64 0,int i64 0,int i64 0,int i64 0,.slice none 0 0,int i64 0,.slice none 0 0,.slice none 0 0,.slice none 0 0,.slice none 0 0] rfl rfl 39 _ G9.out (by kernel_rfl) rfl (by simp [Value.oneCell']) ?_;obtain ⟨W9,hW,gW,bW⟩:=AP (cs:=#[int i64 0,int i64 0,int i64 0,int i64 0,int i64 0,.slice none 0 0,int i64 0,.slice none 0 0,.slice none 0 0,.slice none 0 0,.slice none 0 0]) G9.out B9.out (qn _);rw [hW];have Hu:=qh (Af HB.out bW);clear G9 B9 hW gW bW;clear st60;have st61:True:=trivial))
  go_ret;exact ⟨rfl,by have hq:=Hu.out;first|exact hq|(rw [h1.out] at hq;exact hq)⟩
 obtain ⟨nS,hr⟩:∃n,(DP s).length=n:=⟨_,rfl⟩;rw [hr] at hB ⊢;have hZ:nS≤maxLen:=by obtain ⟨g,o,_,h,_⟩:=hB.parts;rwa [hr] at h
 unfold maxLen at hZ;have HW:=qh hr;have hs:=qh h2;have Hv:=qh HU;have Hw:=qh HV;unfold wkC;obtain ⟨A10,xA10,gA10,bA10,zA10⟩:=Ag V9 #[int i64 s.wd,int i64 s.dp,int i64 (mkA s.t0 s.t1),int i64 (mkB s.t0 s.t1),int i64 (mkC s.t0 s.t1),.slice ra s.roles.length rc,int i64 s.bars,.slice a0 s.tempos.length c0,.slice a1 s.pauses.length c1,.slice a2 s.spans.length c2,.slice a3 nS c3] 39;obtain ⟨X8,Hx⟩:∃X,V9.heap.size=X:=⟨_,rfl⟩;rw [Hx] at gA10;have Hy:=qh gA10
 replace HB:=qh (Af HB.out bA10);replace HX:=qh (Ah bA10 HX.out)
 have T1:=qh (hB.below bA10 (qn _));have hd:=T1;clear T1;have he:=Wk h2;rw [HD.out] at he;obtain ⟨i0,HY,HZ,Ha,Hb⟩:=WA;have hI:=qh (And.intro HY (And.intro HZ (And.intro Ha Hb)));clear HY HZ Ha Hb gA10 bA10 zA10 hB hr h2 HU HV;have ht:xs.length=nD:=by rw [← HD.out,← HT.out,List.length_map]
 have Hc:=qh ht
 have hf:(xs.flatMap Tv).length=nD*6∧(s.da=none→nD=0)∧∀ad,s.da=some ad→∀j u,(xs.flatMap Tv)[j]?=some u→w.cell? (ad.add j)=some u:=by
  refine ⟨by rw [Fm VT,ht],λhn=>?_,λad ha j u hj=>?_⟩
  ·rcases HA.out.dform with h|h
   ·rw [← HD.out,h];rfl
   ·rw [hn] at h;cases h
  ·rcases HA.out.dform with h|h
   ·have Hz:xs=[]:=List.length_eq_zero_iff.1 (by rw [ht,← HD.out,h];rfl)
    rw [Hz] at hj;simp at hj
   ·have e:ad=⟨blk s.da,off s.da,none⟩:=Option.some.inj (ha.symm.trans h)
    rw [e,AN];exact (Ek VT).1 hy.out j u hj
 have HS:=qh hf;clear hf ht;have st20:True:=trivial
 go_wp2_with (first
  | (have q:=st20;clear q;refine wpList_load_row rfl 30 _ rfl X rfl 30 s.cells (0,0) _ HX.out Tryz.underlying30 rfl (by kernel_rfl) ?_;simp only [Act.put,qD,qE,qF];obtain ⟨A11,xA11,gA11,bA11,zA11⟩:=Ag A10 s.cells 30;unfold Ls.cells;unfold Ls.cells at xA11;obtain ⟨X5,Hd⟩:∃X,A10.heap.size=X:=⟨_,rfl⟩;rw [Hd] at gA11;obtain ⟨E7,hT⟩:∃X,A11.heap.size=X:=⟨_,rfl⟩;obtain ⟨W12,xW12,bW12,sW12⟩:∃W,A11.alloc (.cells #[] 64)=W∧Below A11.heap.size A11 W∧W.heap.size=A11.heap.size+1:=⟨_,rfl,(Below.refl _ _).alloc (qn _) _,by simp⟩;rw [hT] at bW12 sW12;have hg:W12.ownsRow E7 64 6 (.slice (some ⟨E7,0,none⟩) 0 0) 0 []:=(by rw [← xW12,← hT];exact Wq A11 _ 64 6 (qn _));have hh:X5<E7:=(by rw [← hT];exact (qs.1 gA11).1);have hL:Below w.heap.size w A11:=Af HB.out bA11;have He:Below w.heap.size w W12:=hL.trans (bW12.mono (by rw [← hT];exact hL.size));have Hf:∀{b:Nat} {ob:Obj},A11.heap[b]?=some ob→W12.heap[b]?=some ob:=(λ{b ob} h=>(bW12.block b (by rw [← hT];exact (qs.1 h).1)).trans h);have y11:W12.cell? ⟨X,11,none⟩=some (.slice s.da nD s.dc):=(by rw [← HD.out];exact Aa (Hf (Ah bA11 HX.out)) 11 rfl);have HO:=qh hg;have GX5:=qh gA11;have BW12:=qh bW12;have SW12:=qh sW12;have Hg:=qh He;have H0:=qh hL;have BA11:=qh bA11;have h3:=qh hh;clear gA11 bA11 zA11 bW12 sW12 hg hL He Hf hh;clear st20;have st21:True:=trivial)
  | (at_builtin;(try rw [xW12]);refine VU rfl _ _ 28 rfl E7 64 i0 _ 6 64 Tryz.underlying28 hI.out.1 hI.out.2.1 hI.out.2.2.1 hI.out.2.2.2 rfl (by decide) _ 0 [] rfl HO.out s.da nD s.dc (xs.flatMap Tv) rfl HS.out.1 HS.out.2.1 (λad ha j u hj=>Ad Hg.out (HS.out.2.2 ad ha j u hj)) (Wu xs) (by unfold maxLen;omega) (by omega) (by rw [SW12.out];omega) ?_;intro v5 W13 h4 Hh Hi;rw [Nat.zero_add,List.nil_append] at h4;obtain ⟨G,cG,rfl,q1,q2,q3⟩:=Wr h4 (by rcases Hi with h|h<;>exact ⟨_,h⟩);have h5:Below E7 A11 W13:=BW12.out.grown Hh (by rw [SW12.out];omega) (λk hk=>by cases hk;exact qn _);have gX5:=(h5.block X5 h3.out).trans GX5.out;obtain ⟨W14,eW14,gW14,oW14,bW14,cW14,fW14⟩:=CG (i:=11) (v:=.slice (some ⟨G,0,none⟩) nD cG) (cs':=(s.flipD (some ⟨G,0,none⟩) cG).cells) gX5 rfl (by unfold Ls.cells;simp [Ls.flipD,HD.out]);have h6:A10.heap.size≤X5:=Nat.le_of_eq Hd;have h7:A10.heap.size≤E7:=(by have:=h3.out;omega);have hm:Below A10.heap.size A10 W14:=(Af BA11.out (by have:=h5;rwa [← hT] at this)).trans (bW14 _ h6);have hG:X5≠G:=(by have:=h3.out;omega);have ho:∀(q:Nat),W14.cell? ⟨G,q,none⟩=W13.cell? ⟨G,q,none⟩:=λq=>World.cell?_of_block (oW14 G (λe=>hG e.symm));have HM:=qh (show MiW A10 s X5 G cG nD xs W14 from ⟨hm,gW14,λj u hj=>(ho j).trans (q3 j u hj),(by obtain ⟨cur,t,hc⟩:=q2;exact ⟨cur,t,(oW14 G (λe=>hG e.symm)).trans hc⟩),Hc.out,Nat.le_trans h7 q1,hG⟩);have y5:W14.cell? ⟨X5,11,none⟩=some (.slice (some ⟨G,0,none⟩) nD cG):=HM.out.slot HD.out;clear h4 Hh Hi q1 q2 q3 h5 gX5 gW14 oW14 bW14 hm ho HO BW12 SW12 Hg H0 GX5 BA11 y11))
 go_loopw [34] (λiv wr=>∃(j:Nat) (ys:List DanN),iv=int i64 j∧j≤nD∧Hid (MiW A10 s X5 G cG nD ys wr)∧Hid (FlpTo xs ys j)) (λiv _=>nD+1-(intOf iv).toNat)
 case atStart=>exact ⟨0,xs,rfl,Nat.zero_le _,HM,qh ⟨λk hk=>by omega,λk _=>rfl⟩⟩
 case round =>
  clear HM y5;obtain ⟨j,ys,rfl,uB,hM,hF⟩:=hrel;by_cases hj:j<nD
  ·have H1:((j:Nat):Int)<(nD:Int):=by omega
   obtain ⟨x,hx⟩:∃x,ys[j]?=some x:=⟨_,qg (by rw [hM.out.len];exact hj)⟩;have y5:wr.drew.cell? ⟨X5,11,none⟩=some (.slice (some ⟨G,0,none⟩) nD cG):=hM.out.slot HD.out;have yb:wr.drew.cell? ⟨G,j*6+5,none⟩=some (.bool x.1.mirror):=hM.out.row.get VT hx (r:=5) rfl;have yf:wr.drew.frozen? ⟨G,j*6+5,none⟩=false:=hM.out.free.free _;go_wp2_with fail;refine AJ (λw2=>w2=wr.drew) 12 (by kernel_rfl) (by kernel_rfl) rfl ?_;intro w2 hS;subst hS;simp only [List.take_succ_cons,List.take_zero,List.drop_succ_cons,List.drop_zero]
   iterate 12 still_step
   refine wpStill_nil ?_;go_wp2_with fail;go_roundw
   case rel=>exact ⟨j+1,_,by go_num,by omega,qh (hM.out.drew.set hx),qh (hF.out.next hx)⟩
   case measure=>first|omega|(simp [intOf];omega)
  ·obtain rfl:j=nD:=by omega
   have H1:¬((j:Nat):Int)<(j:Int):=by omega
   have H2:=hF.out.all (Nat.le_of_eq Hc.out);subst H2;have st40:True:=trivial
   go_wp2_with (first
    | (have q:=st40;clear q;refine wpList_load_row rfl 30 _ rfl X5 rfl 30 (s.flipD (some ⟨G,0,none⟩) cG).cells (0,0) _ hM.out.box Tryz.underlying30 rfl (by kernel_rfl) ?_;simp only [Act.put,qD,qE,qF];clear st40;have st41:True:=trivial))
   have hC:Value.agg (s.flipD (some ⟨G,0,none⟩) cG).cells=(s.flipD (some ⟨G,0,none⟩) cG).val:=rfl;rw [hC];clear hC;go_at_call 11;have hL:=HB.out.trans (hM.out.base.mono HB.out.size);have Hj:AtRow Tv 6 wr G 0 (xs.map DanN.flip):=(Ek VT).2 (λj u hj=>by rw [Nat.zero_add];exact hM.out.row j u hj);obtain ⟨Hk,h8⟩:=Wy (c:=cG) HA.out Hs.out hL HT.out Hj;rw [Ht.out] at h8;refine (Wv (s.flipD (some ⟨G,0,none⟩) cG) (k1++k2) wr Hk h8 (HE.out wr hL).1).mono ?_;rintro e V14 ⟨hb,hD⟩;have Hl:=Wg hs.out (some ⟨G,0,none⟩) cG;rcases hD with ⟨k,hk,h9,rfl⟩|⟨H3,_,_,rb,b0,b1,b2,b3,rd,d0,d1,d2,d3,rfl,hB⟩
   ·exfalso
    rcases h9 with ⟨h,_⟩|h|h
    ·exact h ((Wi s _ _ _).trans hs.out)
    ·exact Hv.out h
    ·rw [Hl,List.length_map] at h
     have:=Hw.out;omega
   have HC:=Wj hs.out (some ⟨G,0,none⟩) cG;have hQ:=Ws hs.out;have hO:(DP (s.flipD (some ⟨G,0,none⟩) cG)).length=nS:=by rw [HC,List.length_map,HW.out]
   rw [hO] at hB ⊢;rw [HC] at hB;unfold wkC;simp only [Ls.flipD];have hu:Below A10.heap.size A10 V14:=hM.out.base.trans (hb.mono hM.out.base.size);have Hm:Below w.heap.size w V14:=HB.out.trans (hu.mono HB.out.size);obtain ⟨l,hl⟩:∃l,DP s=l:=⟨_,rfl⟩;rw [hl] at hB hQ;have hP:IsRow Ay 14 V14 (.slice a3 nS c3) l:=hl▸hd.out.below hu (qn _);have H4:=qh (show l.length=nS from hl▸HW.out);obtain ⟨A15,xA15,gA15,bA15,zA15⟩:=Ag V14 #[int i64 s.wd,int i64 s.dp,int i64 (mkA s.t0 s.t1),int i64 (mkB s.t0 s.t1),int i64 (mkC s.t0 s.t1),.slice rb s.roles.length rd,int i64 s.bars,.slice b0 s.tempos.length d0,.slice b1 s.pauses.length d1,.slice b2 s.spans.length d2,.slice b3 nS d3] 39;obtain ⟨X10,HF⟩:∃X,V14.heap.size=X:=⟨_,rfl⟩;rw [HF] at gA15;have y8:A15.cell? ⟨X8,10,none⟩=some (.slice a3 nS c3):=Aa (Ah bA15 (Ah hu Hy.out)) 10 rfl;have y10:A15.cell? ⟨X10,10,none⟩=some (.slice b3 nS d3):=Aa gA15 10 rfl;have HG:=qh y10;have HH:=qh (hP.below bA15 (qn _));have HI:=qh (hB.below bA15 (qn _));have HJ:=qh hQ;have HK:=qh (Af Hm bA15);clear gA15 bA15 zA15 hB hP HC hO hl hQ H3 hu Hm hb Hl Hk h8 Hj hL;go_wp2_with fail;go_loopw [69] (λiv wr=>∃i:Nat,iv=int i64 i∧i≤nS∧Hid (Below A15.heap.size A15 wr)) (λiv _=>nS+1-(intOf iv).toNat)
   case atStart=>exact ⟨0,rfl,Nat.zero_le _,qh (Below.refl _ _)⟩
   case round =>
    obtain ⟨i,rfl,uC,hW⟩:=hrel;by_cases hi:i<nS
    ·have H5:((i:Nat):Int)<(nS:Int):=by omega
     obtain ⟨x,hx⟩:∃x,l[i]?=some x:=⟨_,qg (by rw [H4.out];exact hi)⟩;have hR:(l.map Sgn.mir)[i]?=some x.mir:=by rw [List.getElem?_map,hx];rfl
     have HL:=HJ.out x (List.mem_of_getElem? hx);obtain ⟨g,o,ha,hA,_⟩:=(HH.out.below hW.out (qn _)).block hx;obtain ⟨g2,o2,Hn,Ho,_⟩:=(HI.out.below hW.out (qn _)).block hR;have z10:=Ad hW.out HG.out
     cases x with
     | mk s0 s1 s2 s3 s4 s5 s6 s7 s8 s9 s10 s11 s12 s13 =>
     unfold Wh at HL;simp only at HL;obtain ⟨⟨p1,p2⟩,⟨p3,p4⟩,p5,p6⟩:=HL;obtain ⟨sd,hU⟩:∃sd,(if s5=0 then (0:Int) else 3-s5)=sd:=⟨_,rfl⟩;obtain ⟨sz,hY⟩:∃sz,(if s4=6 then 8-s8 else s8)=sz:=⟨_,rfl⟩;have H6:Hid (wr.rangeAt g (o+i*14) [int i64 s0,int i64 s1,int i64 s2,int i64 s3,int i64 s4,int i64 s5,int i64 s6,int i64 s7,int i64 s8,int i64 s9,int i64 s10,int i64 s11,int i64 s12,int i64 s13]):=qh (λu v hv=>hA i _ hx u v hv);have Hp:wr.rangeAt g2 (o2+i*14) [int i64 s0,int i64 s1,int i64 s2,int i64 s3,int i64 s4,int i64 sd,int i64 (NY s6),int i64 s7,int i64 sz,int i64 s9,int i64 s10,int i64 s11,int i64 s12,int i64 s13]:=by subst hU hY;exact λu v hv=>Ho i _ hR u v hv
     obtain ⟨A16,xA16,gA16,bA16,zA16⟩:=Ag wr #[int i64 s0,int i64 s1,int i64 s2,int i64 s3,int i64 s4,int i64 s5,int i64 s6,int i64 s7,int i64 s8,int i64 s9,int i64 s10,int i64 s11,int i64 s12,int i64 s13] 54;obtain ⟨XB,Hq⟩:∃X,wr.heap.size=X:=⟨_,rfl⟩;rw [Hq] at gA16;have c6:A16.cell? ⟨XB,6,none⟩=some (int i64 s6):=Aa gA16 6 rfl;obtain ⟨W17,eW17,gW17,oW17,bW17,cW17,fW17⟩:=CG (i:=6) (v:=int i64 (NY s6)) (cs':=#[int i64 s0,int i64 s1,int i64 s2,int i64 s3,int i64 s4,int i64 s5,int i64 (NY s6),int i64 s7,int i64 s8,int i64 s9,int i64 s10,int i64 s11,int i64 s12,int i64 s13]) gA16 rfl rfl;have c5:W17.cell? ⟨XB,5,none⟩=some (int i64 s5):=Aa gW17 5 rfl;have hH:Below wr.heap.size wr W17:=bA16.trans (bW17 _ (Nat.le_of_eq Hq))
     obtain ⟨W18,H7,gW18,hJ⟩:∃W18,(((s5==0)=true∧W18=W17)∨((s5==0)=false∧IntKind.i64.wrap (3-s5)=sd∧W17.setCell ⟨XB,5,none⟩ (int i64 sd)=W18))∧W18.heap[XB]?=some (.cells #[int i64 s0,int i64 s1,int i64 s2,int i64 s3,int i64 s4,int i64 sd,int i64 (NY s6),int i64 s7,int i64 s8,int i64 s9,int i64 s10,int i64 s11,int i64 s12,int i64 s13] 54 (0,0))∧Below wr.heap.size wr W18:=by
      by_cases h:s5=0
      ·rw [if_pos h] at hU
       subst hU h;exact ⟨W17,Or.inl ⟨rfl,rfl⟩,gW17,hH⟩
      ·rw [if_neg h] at hU
       subst hU;obtain ⟨V,eV,gV,oV,bV,cV,fV⟩:=CG (i:=5) (v:=int i64 (3-s5)) (cs':=#[int i64 s0,int i64 s1,int i64 s2,int i64 s3,int i64 s4,int i64 (3-s5),int i64 (NY s6),int i64 s7,int i64 s8,int i64 s9,int i64 s10,int i64 s11,int i64 s12,int i64 s13]) gW17 rfl rfl;exact ⟨V,Or.inr ⟨by simpa using h,IntWalk.i64_in _ (by omega),eV⟩,gV,hH.trans (bV _ (by have:=hH.size;omega))⟩
     have c4:W18.cell? ⟨XB,4,none⟩=some (int i64 s4):=Aa gW18 4 rfl;have c8:W18.cell? ⟨XB,8,none⟩=some (int i64 s8):=Aa gW18 8 rfl;have f5:W17.frozen? ⟨XB,5,none⟩=false:=by simp [World.frozen?,gW17]
     have f8:W18.frozen? ⟨XB,8,none⟩=false:=by simp [World.frozen?,gW18]
     obtain ⟨W19,H8,gW19,hK⟩:∃W19,(((s4==6)=false∧W19=W18)∨((s4==6)=true∧IntKind.i64.wrap (8-s8)=sz∧W18.setCell ⟨XB,8,none⟩ (int i64 sz)=W19))∧W19.heap[XB]?=some (.cells #[int i64 s0,int i64 s1,int i64 s2,int i64 s3,int i64 s4,int i64 sd,int i64 (NY s6),int i64 s7,int i64 sz,int i64 s9,int i64 s10,int i64 s11,int i64 s12,int i64 s13] 54 (0,0))∧Below wr.heap.size wr W19:=by
      by_cases h:s4=6
      ·rw [if_pos h] at hY
       subst hY;obtain ⟨V,eV,gV,oV,bV,cV,fV⟩:=CG (i:=8) (v:=int i64 (8-s8)) (cs':=#[int i64 s0,int i64 s1,int i64 s2,int i64 s3,int i64 s4,int i64 sd,int i64 (NY s6),int i64 s7,int i64 (8-s8),int i64 s9,int i64 s10,int i64 s11,int i64 s12,int i64 s13]) gW18 rfl rfl;exact ⟨V,Or.inr ⟨by simpa using h,IntWalk.i64_in _ (by omega),eV⟩,gV,hJ.trans (bV _ (by have:=hJ.size;omega))⟩
      ·rw [if_neg h] at hY
       subst hY;exact ⟨W18,Or.inl ⟨by simpa using h,rfl⟩,gW18,hJ⟩
     have H9:=qh (λu v hv=>Ad hK (Hp u v hv):W19.rangeAt g2 (o2+i*14) [int i64 s0,int i64 s1,int i64 s2,int i64 s3,int i64 s4,int i64 sd,int i64 (NY s6),int i64 s7,int i64 sz,int i64 s9,int i64 s10,int i64 s11,int i64 s12,int i64 s13]);have v10:W19.cell? ⟨X10,10,none⟩=some (.slice (some ⟨g2,o2,none⟩) nS d3):=by rw [← Hn];exact Ad hK z10
     have HP:=qh hK;have HQ:=qh gW19;have Hr:NZ s6=.tuple #[int i64 (NY s6),int i64 0]:=by unfold NZ NY;rw [AM.2 ⟨p3,p4⟩];rfl
     have CM:=JR s6 A16;rw [Hr] at CM;have uA:=qh CM;subst ha;clear gA16 bA16 zA16 gW17 oW17 bW17 hH gW18 hJ gW19 hK hA Ho Hp hx hR z10 Hn hU hY p1 p2 p3 p4 p5 p6 Hr CM;rcases H7 with ⟨q5,rfl⟩|⟨q5,w5,e5⟩
     all_goals rcases H8 with ⟨q4,rfl⟩|⟨q4,w4,e4⟩
     all_goals
      have st30:True:=trivial
      go_wp2_with (first
       | (have q:=st30;clear q;refine wpList_load_mid rfl 54 _ rfl g (o+i*14) rfl [int i64 s0,int i64 s1,int i64 s2,int i64 s3,int i64 s4,int i64 s5,int i64 s6,int i64 s7,int i64 s8,int i64 s9,int i64 s10,int i64 s11,int i64 s12,int i64 s13] _ H6.out Tryz.underlying54 rfl (by kernel_rfl) ?_;simp only [Act.put,qD,qE,qF];clear st30;have st31:True:=trivial)
       | (go_at_call 22;refine uA.out.mono ?_;rintro e V9 ⟨rfl,rfl⟩))
      refine AJ (λw2=>w2=W19.drew) 9 (by kernel_rfl) (by kernel_rfl) rfl ?_;intro w2 hS;subst hS;have d10:W19.drew.cell? ⟨X10,10,none⟩=some (.slice (some ⟨g2,o2,none⟩) nS d3):=v10;simp only [List.take_succ_cons,List.take_zero,List.drop_succ_cons,List.drop_zero]
      iterate 7 still_step
      refine AF (by kernel_rfl) 54 _ rfl g2 (o2+i*14) rfl [int i64 s0,int i64 s1,int i64 s2,int i64 s3,int i64 s4,int i64 sd,int i64 (NY s6),int i64 s7,int i64 sz,int i64 s9,int i64 s10,int i64 s11,int i64 s12,int i64 s13] _ H9.out Tryz.underlying54 rfl (by kernel_rfl) ?_
      try simp only [Act.put,qz]
      refine AF (by kernel_rfl) 54 _ rfl XB 0 rfl [int i64 s0,int i64 s1,int i64 s2,int i64 s3,int i64 s4,int i64 sd,int i64 (NY s6),int i64 s7,int i64 sz,int i64 s9,int i64 s10,int i64 s11,int i64 s12,int i64 s13] _ (λu v hv=>by rw [Nat.zero_add];exact Aa HQ.out u (by simpa using hv)) Tryz.underlying54 rfl (by kernel_rfl) ?_
      try simp only [Act.put,qz]
      refine wpStill_nil ?_;refine EQ (by kernel_rfl) (.bool false) (by rw [M0 _ _ _ _ _ rfl (⟨s0,s1,s2,s3,s4,sd,NY s6,s7,sz,s9,s10,s11,s12,s13⟩:Sgn) (⟨s0,s1,s2,s3,s4,sd,NY s6,s7,sz,s9,s10,s11,s12,s13⟩:Sgn) rfl rfl _];simp) ?_
      try simp only [Act.put,qz]
      go_wp2_with fail;go_roundw
      case rel=>exact ⟨i+1,by go_num,by omega,qh (Af hW.out (HP.out.trans (Aj (Below.refl _ _) 1)))⟩
      case measure=>first|omega|(simp [intOf];omega)
    ·obtain rfl:i=nS:=by omega
     have H5:¬((i:Nat):Int)<(i:Int):=by omega
     go_wp2_with fail;go_ret;exact ⟨rfl,by have hq:=(Af HK.out hW.out);first|exact hq|(rw [h1.out] at hq;exact hq)⟩
end
end Go.Proofs.YtbkemlgfdklpfaaGreatDoor
