/- Contracts and plain laws on the way to the statement: part 28. -/
import Derived.Test.YtbkemlgfdklpfaaGreatDoorV27
import Derived.Test.YtbkemlgfdklpfaaGreatDoorV18
import Derived.Test.YtbkemlgfdklpfaaGreatDoorV15
import Derived.Test.YtbkemlgfdklpfaaGreatDoorV3
import Derived.Maps.RangeRun
import Derived.Maps.Range
import Derived.Test.YtbkemlgfdklpfaaGreatDoorV4
set_option autoImplicit true
set_option relaxedAutoImplicit true
set_option linter.unusedVariables false
set_option linter.unusedSimpArgs false
set_option maxRecDepth 100000
set_option maxHeartbeats 16000000
namespace Go.Proofs.YtbkemlgfdklpfaaGreatDoor
open Go.Value (int)
open Go.IntKind (i64)
section
open Go Go.RowKit Go.Shelf
theorem Il{κ:Type}[DecidableEq κ]{f:κ→Value}{P:Program}{T K E:TypeId}(hT:P.underlying T=some (.map K E)){w:World}{b:Nat}{kvs:List (κ×Value)}(h:MapAt f w b kvs)(ty:TypeId):(Builtin.len_ #[T] ty #[.map (some b)]).run P w=.ok (int i64 kvs.length) w:=by
 obtain ⟨es,c,hb,he⟩:=h;have hl:es.size=kvs.length:=by simpa using congrArg List.length he
 simp [Builtin.len_,run_underlying hT,MapKept.run_getObj_map hb,goInt,Result.andThen,hl]
theorem Ph.Its.below'{w w':World}{p:Ph}(h:p.Its w)(hb:Below w.heap.size w w'):p.Its w':=⟨h.1,h.2.1,h.2.2.below hb⟩
theorem MR{w w':World}(hb:Below w.heap.size w w'){b g:Nat}:∀{o o':Nat} {ps:List Ph},Bk w b o ps→Cp w b o w' g o' (2*ps.length)→Bk w' g o' ps
 | _,_,[],_,_=>trivial
 | o,o',p::r,⟨⟨h1,h2,h3⟩,h⟩,hc=>by
  have hA:Cp w b o w' g o' (2+2*r.length):=by
   have e:2*(p::r).length=2+2*r.length:=by simp only [List.length_cons];omega
   rw [e] at hc;exact hc
  exact ⟨⟨hA 0 _ (by omega) h1,hA 1 _ (by omega) h2,h3.below' hb⟩,MR hb h hA.from⟩
theorem Kn{w w':World}{b g:Nat}:∀{o o':Nat} {ds:List Dan},Bw w b o ds→Cp w b o w' g o' (6*ds.length)→Bw w' g o' ds
 | _,_,[],_,_=>trivial
 | o,o',d::r,⟨⟨h1,h2,h3,h4⟩,h⟩,hc=>by
  have hA:Cp w b o w' g o' (6+6*r.length):=by
   have e:6*(d::r).length=6+6*r.length:=by simp only [List.length_cons];omega
   rw [e] at hc;exact hc
  exact ⟨⟨hA 0 _ (by omega) h1,hA 2 _ (by omega) h2,hA 4 _ (by omega) h3,hA 5 _ (by omega) h4⟩,Kn h hA.from⟩
theorem Ko{w w':World}{b g:Nat}:∀{o o':Nat} {ds:List Dan} {ns:List Int},NsAt w (Ao b o ds) ns→Cp w b o w' g o' (6*ds.length)→NsAt w' (Ao g o' ds) ns
 | _,_,[],[],_,_=>trivial
 | _,_,[],_::_,h,_=>h.elim
 | _,_,_::_,[],h,_=>h.elim
 | _,_,_::_,[_],h,_=>h.2.elim
 | o,o',d::r,n::m::ns,⟨h1,h2,h3⟩,hc=>by
  have hA:Cp w b o w' g o' (6+6*r.length):=by
   have e:6*(d::r).length=6+6*r.length:=by simp only [List.length_cons];omega
   rw [e] at hc;exact hc
  exact ⟨hA 1 _ (by omega) h1,hA 3 _ (by omega) h2,Ko h3 hA.from⟩
theorem SE{w:World}{b:Nat}:∀{o:Nat} {ps:List Ph},Bk w b o ps→∀q,q<2*ps.length→∃v,w.cell? ⟨b,o+q,none⟩=some v∧v.oneCell'=true
 | _,[],_,q,hq=>by simp at hq
 | o,p::r,⟨⟨h1,h2,_⟩,h⟩,q,hq=>by
  simp only [List.length_cons] at hq
  match q,hq with
  | 0,_=>exact ⟨_,h1,rfl⟩
  | 1,_=>exact ⟨_,h2,rfl⟩
  | q+2,hq =>
   obtain ⟨v,k1,k2⟩:=SE h q (by omega);exact ⟨v,by rw [show o+(q+2)=o+2+q by omega];exact k1,k2⟩
theorem OS{w:World}{b:Nat}:∀{o:Nat} {ds:List Dan} {ns:List Int},Bw w b o ds→NsAt w (Ao b o ds) ns→∀q,q<6*ds.length→∃v,w.cell? ⟨b,o+q,none⟩=some v∧v.oneCell'=true
 | _,[],_,_,_,q,hq=>by simp at hq
 | _,_::_,[],_,h,_,_=>h.elim
 | _,_::_,[_],_,h,_,_=>h.2.elim
 | o,d::r,n::m::ns,⟨⟨h1,h2,h3,h4⟩,h⟩,⟨n1,n2,n3⟩,q,hq=>by
  simp only [List.length_cons] at hq
  match q,hq with
  | 0,_=>exact ⟨_,h1,rfl⟩
  | 1,_=>exact ⟨_,n1,rfl⟩
  | 2,_=>exact ⟨_,h2,rfl⟩
  | 3,_=>exact ⟨_,n2,rfl⟩
  | 4,_=>exact ⟨_,h3,rfl⟩
  | 5,_=>exact ⟨_,h4,rfl⟩
  | q+6,hq =>
   obtain ⟨v,k1,k2⟩:=OS h n3 q (by omega);exact ⟨v,by rw [show o+(q+6)=o+6+q by omega];exact k1,k2⟩
theorem ON(fa:Option Addr)(fc n:Nat)(ps:List Ph)(w:World)(hn:ps.length=n)(hm:n≤100000)(hf:ps=[]∨fa=some ⟨blk fa,off fa,none⟩)(hA:Bk w (blk fa) (off fa) ps) :
  Calls Tryz.prog 127 #[.slice fa n fc] w λe w'=>∃fa' fc',e=.returned (.slice fa' n fc')∧(RowNew w w' fa' n∧Bk w' (blk fa') 0 ps)∧Below w.heap.size w w':=by
 subst hn;by_cases hz:ps=[]
 ·subst hz
  refine (Mz fa 0 fc [] w rfl (Nat.zero_le _) (λ_=>rfl) (λa _ j u hj=>by cases hj) (λu hu=>by cases hu)).mono ?_;rintro e w' ⟨v',rfl,ho,hb⟩;obtain ⟨ao,c,rfl,h1,_,_⟩:=BU (by omega) ho;exact ⟨ao,c,rfl,⟨h1,trivial⟩,hb⟩
 ·have hB:=hf.resolve_left hz
  obtain ⟨news,l1,l2,l3⟩:=Ft (SE hA)
  refine (Mz fa ps.length fc news w (by rw [l1];omega) hm (λe=>by rw [e] at hB;cases hB) (λa ha j u hj=>by
   rw [hB] at ha;cases ha;rw [Bc];exact l2 j u hj) l3).mono ?_
  rintro e w' ⟨v',rfl,ho,hb⟩;obtain ⟨ao,c,rfl,h1,_,h3⟩:=BU (by omega) ho
  have hC:Cp w (blk fa) (off fa) w' (blk ao) 0 (2*ps.length):=λq v hq hc=>h3 q v (by
   have:q<news.length:=by omega
   rw [qg this];have h4:=l2 q _ (qg this)
   rw [h4] at hc;exact hc)
  exact ⟨ao,c,rfl,⟨h1,MR hb hA hC⟩,hb⟩
theorem Nh(fa:Option Addr)(fc n:Nat)(ds:List Dan)(ns:List Int)(w:World)(hn:ds.length=n)(hm:n≤100000)(hf:ds=[]∨fa=some ⟨blk fa,off fa,none⟩)(hA:Bw w (blk fa) (off fa) ds)(hN:NsAt w (Ao (blk fa) (off fa) ds) ns) :
  Calls Tryz.prog 128 #[.slice fa n fc] w λe w'=>∃fa' fc',e=.returned (.slice fa' n fc')∧(RowNew w w' fa' n∧Bw w' (blk fa') 0 ds∧NsAt w' (Ao (blk fa') 0 ds) ns)∧Below w.heap.size w w':=by
 subst hn;by_cases hz:ds=[]
 ·subst hz
  refine (MA fa 0 fc [] w rfl (Nat.zero_le _) (λ_=>rfl) (λa _ j u hj=>by cases hj) (λu hu=>by cases hu)).mono ?_;rintro e w' ⟨v',rfl,ho,hb⟩;obtain ⟨ao,c,rfl,h1,_,_⟩:=BU (by omega) ho
  cases ns with
  | nil=>exact ⟨ao,c,rfl,⟨h1,trivial,trivial⟩,hb⟩
  | cons=>exact hN.elim
 ·have hB:=hf.resolve_left hz
  obtain ⟨news,l1,l2,l3⟩:=Ft (OS hA hN)
  refine (MA fa ds.length fc news w (by rw [l1];omega) hm (λe=>by rw [e] at hB;cases hB) (λa ha j u hj=>by
   rw [hB] at ha;cases ha;rw [Bc];exact l2 j u hj) l3).mono ?_
  rintro e w' ⟨v',rfl,ho,hb⟩;obtain ⟨ao,c,rfl,h1,_,h3⟩:=BU (by omega) ho
  have hC:Cp w (blk fa) (off fa) w' (blk ao) 0 (6*ds.length):=λq v hq hc=>h3 q v (by
   have:q<news.length:=by omega
   rw [qg this];have h4:=l2 q _ (qg this)
   rw [h4] at hc;exact hc)
  exact ⟨ao,c,rfl,⟨h1,Kn hA hC,Ko hN hC⟩,hb⟩
def Ly(s:Ls)(fa:Option Addr)(fc:Nat)(da:Option Addr)(dc:Nat):Array Value:=#[sv s.name,int i64 s.wd,int i64 s.dp,int i64 s.bars,int i64 s.t0,int i64 s.t1,.slice s.ra s.roles.length s.rc,.slice s.ta s.tempos.length s.tc,.slice s.ua s.pauses.length s.uc,.slice s.sa s.spans.length s.sc,.slice fa s.phrases.length fc,.slice da s.dances.length dc]
structure R7(s:Ls)(n2:List Int)(X:Nat)(W:World)(fa:Option Addr)(fc:Nat)(da:Option Addr)(dc:Nat)(W':World):Prop where
 x:W'.heap[X]?=some (.cells (Ly s fa fc da dc) 30 (0,0))
 ph:Bk W' (blk fa) 0 s.phrases
 phn:RowNew W W' fa s.phrases.length
 dan:Bw W' (blk da) 0 s.dances
 dn:NsAt W' (Ao (blk da) 0 s.dances) n2
 dnn:RowNew W W' da s.dances.length
 fd:s.dances≠[]→s.phrases≠[]→blk fa≠blk da
 but:ButOne X W W'
theorem RowNew.set{W V:World}{ao:Option Addr}{n:Nat}(h:RowNew W V ao n)(p:Addr)(v:Value):RowNew W (V.setCell p v) ao n:=by
 rcases h with h|⟨h1,h2,h3⟩
 ·exact Or.inl h
 ·exact Or.inr ⟨h1,h2,h3.set p v⟩
theorem R7.make{s:Ls}{n2:List Int}{X:Nat}{W V1 V2 V3:World}{fa da:Option Addr}{fc dc nP nD:Nat}(hE:s.phrases.length=nP)(hF:s.dances.length=nD)(hX:W.heap[X]?=some (.cells s.cells 30 (0,0)))(hG:∀b∈AZ s.phrases,b≠X)(hA:Below W.heap.size W V1)(h1:RowNew W V1 fa nP∧Bk V1 (blk fa) 0 s.phrases)
  (hB:Below V1.heap.size V1 V2) (h2:RowNew V2 V3 da nD∧Bw V3 (blk da) 0 s.dances∧NsAt V3 (Ao (blk da) 0 s.dances) n2) (hH:Below V2.heap.size V2 V3) :
  R7 s n2 X W fa fc da dc ((V3.setCell ⟨X,10,none⟩ (.slice fa nP fc)).setCell ⟨X,11,none⟩ (.slice da nD dc)):=by
 subst hE hF;have hI:=(qs.1 hX).1;have b13:=hB.trans (hH.mono hB.size);have b03:=hA.trans (b13.mono hA.size);obtain ⟨⟨r1,r2⟩,r3,r4,r5⟩:=And.intro h1 h2;have s1:=hA.size;have s2:=hB.size;have keep:∀{c q:Nat} {v:Value},c≠X→V3.cell? ⟨c,q,none⟩=some v→((V3.setCell ⟨X,10,none⟩ (.slice fa s.phrases.length fc)).setCell ⟨X,11,none⟩ (.slice da s.dances.length dc)).cell? ⟨c,q,none⟩=some v:=λhc h=>Ac (Ac h (Aq (Or.inl hc.symm))) (Aq (Or.inl hc.symm))
 have r1':RowNew W V3 fa s.phrases.length:=by
  rcases r1 with h|⟨h,h',hC⟩
  ·exact Or.inl h
  ·exact Or.inr ⟨h,h',hC.below b13⟩
 have r3':RowNew W V3 da s.dances.length:=by
  rcases r3 with h|⟨h,h',hC⟩
  ·exact Or.inl h
  ·exact Or.inr ⟨h,by omega,hC⟩
 have hJ:s.phrases≠[]→blk fa≠X:=λhz=>by
  rcases r1 with h|⟨_,h,_⟩
  ·exact absurd (List.length_eq_zero_iff.1 h) hz
  ·omega
 have hD:s.dances≠[]→blk da≠X:=λhz=>by
  rcases r3 with h|⟨_,h,_⟩
  ·exact absurd (List.length_eq_zero_iff.1 h) hz
  ·omega
 refine ⟨?_,?_,(r1'.set _ _).set _ _,?_,?_,(r3'.set _ _).set _ _,?_,?_⟩
 ·have hK:V3.heap[X]?=some (.cells s.cells 30 (0,0)):=(b03.block X hI).trans hX
  simp [World.setCell,Array.getElem?_modify,hK,Ls.cells,Ly]
 ·by_cases hz:s.phrases=[]
  ·rw [hz];trivial
  ·exact CD (Bd b13 r2) (λq v _ hc=>keep (hJ hz) hc) (λc hc q v h=>keep (hG c hc) h)
 ·by_cases hz:s.dances=[]
  ·rw [hz];trivial
  ·exact C9 r4 (λq v _ hc=>keep (hD hz) hc)
 ·by_cases hz:s.dances=[]
  ·rw [hz] at r5 ⊢
   cases n2 with
   | nil=>trivial
   | cons=>exact r5.elim
  ·exact r5.kept λx hx v hc=>keep (by rw [(AW hx).1];exact hD hz) hc
 ·intro hd hp e
  rcases r1 with h|⟨_,_,h⟩
  ·exact absurd (List.length_eq_zero_iff.1 h) hp
  rcases r3 with k|⟨_,k,_⟩
  ·exact absurd (List.length_eq_zero_iff.1 k) hd
  have:=h.lt;omega
 ·exact ((ButOne.of_below b03).trans (ButOne.setCell (p:=⟨X,10,none⟩) _)).trans (ButOne.setCell (p:=⟨X,11,none⟩) _)
noncomputable def elem15n7:Code:=qe 7 Am
theorem TG(s:Ls)(n2:List Int)(B1 X E TB:Nat)(ds:List Deferred)(W:World)(hB:W.heap[B1]?=some (.cells s.cells 30 (0,0)))(hX:W.heap[X]?=some (.cells s.cells 30 (0,0)))(hJ:∀b∈AZ s.phrases,b≠X)(hA:s.At W)(hK:NsAt W (Ao (blk s.da) (off s.da) s.dances) n2)(hp:s.phrases.length≤100000)(hd:s.dances.length≤100000)(Q:Act→World→Prop)
  (hQ:∀fa fc da dc W',R7 s n2 X W fa fc da dc W'→∀(f0 f5 f6 f7 f8 f9 aO aP aQ aR aS aT aU aV aW aX aY aZ ba bb bc bd be bf bg bh bi bj bk bl bm bn bo bp bq br bs bt bu bv bw bx bz bA bB bC bD bE bF bG bH bI bJ bK bL bM bN bO bP bQ bR bS bT bU bV bW bY bZ ca cb cc cd ce cf cg ch ci cj ck cm cn co cp cq cr cs ct cu cv cw cx cy cz cA cB:Value),Q { tmps:=#[f0,.pointer (some ⟨B1,0,none⟩),.pointer (some ⟨X,0,none⟩),.pointer (some ⟨E,0,none⟩),.pointer (some ⟨TB,0,none⟩),f5,f6,f7,f8,f9,aO,aP,aQ,aR,aS,aT,aU,aV,aW,aX,aY,aZ,ba,bb,bc,bd,be,bf,bg,bh,bi,bj,bk,bl,bm,bn,bo,bp,bq,br,bs,bt,bu,bv,bw,bx,bz,bA,bB,bC,bD,bE,bF,bG,bH,bI,bJ,bK,bL,bM,bN,bO,bP,bQ,bR,bS,bT,bU,bV,bW,bY,bZ,ca,cb,cc,cd,ce,cf,cg,ch,ci,cj,ck,cm,cn,co,cp,cq,cr,cs,ct,cu,cv,cw,cx,cy,cz,cA,cB],defers:=ds } W')
:
  elem15n7.wp Tryz.prog (Exit.then Q (λ_ _ _=>False)) { tmps:=#[e0,.pointer (some ⟨B1,0,none⟩),.pointer (some ⟨X,0,none⟩),.pointer (some ⟨E,0,none⟩),.pointer (some ⟨TB,0,none⟩),e5,e6,e7,e8,e9,ea,eb,ec,ed,ee,ef,eg,eh,ei,ej,ek,el,em,en,eo,ep,eq,er,es,et,eu,ev,ew,ex,ey,ez,eA,eB,eC,eD,eE,eF,eG,eH,eI,eJ,eK,eL,eM,eN,eO,eP,eQ,eR,eS,eT,eU,eV,eW,eX,eY,eZ,aa,ab,ac,ae,af,ag,ah,ai,aj,ak,al,am,an,ao,ap,aq,ar,au,av,aw,ax,ay,az,aA,aB,aC,aD,aE,aF,aG,aH,aI,aJ,aK,aL,aM,aN],defers:=ds } W:=by
 obtain ⟨nP,hD⟩:∃n,s.phrases.length=n:=⟨_,rfl⟩;obtain ⟨nD,hE⟩:∃n,s.dances.length=n:=⟨_,rfl⟩
 have C46:∀V,Below W.heap.size W V→Calls Tryz.prog 127 #[.slice s.fa nP s.fc] V λe V'=>∃fa fc,e=.returned (.slice fa nP fc)∧Hid (Below V.heap.size V V'∧RowNew V V' fa nP∧Bk V' (blk fa) 0 s.phrases)∧Below W.heap.size W V':=λV hb =>
  (ON s.fa s.fc nP s.phrases V hD (by omega) hA.pform (Bd hb hA.phrases)).mono λe V' ⟨fa,fc,h1,h2,h3⟩=>⟨fa,fc,h1,qh ⟨h3,h2⟩,hb.trans (h3.mono hb.size)⟩
 have C47:∀V,Below W.heap.size W V→Calls Tryz.prog 128 #[.slice s.da nD s.dc] V λe V'=>∃da dc,e=.returned (.slice da nD dc)∧Hid (Below V.heap.size V V'∧RowNew V V' da nD∧Bw V' (blk da) 0 s.dances∧NsAt V' (Ao (blk da) 0 s.dances) n2)∧Below W.heap.size W V':=λV hb =>
  (Nh s.da s.dc nD s.dances n2 V hE (by omega) hA.dform (Dp hb hA.dances) (hK.below hb)).mono λe V' ⟨fa,fc,h1,h2,h3⟩=>⟨fa,fc,h1,qh ⟨h3,h2⟩,hb.trans (h3.mono hb.size)⟩
 have hF:=hB;have hG:=hX;unfold Ls.cells at hF;rw [hD,hE] at hF;have c10:=Aa hF 10 rfl;have c11:=Aa hF 11 rfl;unfold Ls.cells at hG;rw [hD,hE] at hG;have cC:=Aa hG 10 rfl;have cD:=Aa hG 11 rfl
 have HK:∀V,Below W.heap.size W V→V.cell? ⟨B1,10,none⟩=some (.slice s.fa nP s.fc)∧V.cell? ⟨B1,11,none⟩=some (.slice s.da nD s.dc)∧V.frozen? ⟨X,10,none⟩=false∧V.frozen? ⟨X,11,none⟩=false∧V.cell? ⟨X,10,none⟩=some (.slice s.fa nP s.fc)∧V.cell? ⟨X,11,none⟩=some (.slice s.da nD s.dc):=λV hb=>by
  have hf:FreeB V X:=FreeB.below ⟨_,_,hX⟩ hb;exact ⟨Ad hb c10,Ad hb c11,hf.free _,hf.free _,Ad hb cC,Ad hb cD⟩
 have hC:=qh HK;have hL:=qh C46;have hM:=qh C47;have HQ:=qh hQ;have HM:=qh (λV1 V2 V3 fa da fc dc=>R7.make (s:=s) (n2:=n2) (V1:=V1) (V2:=V2) (V3:=V3) (fa:=fa) (da:=da) (fc:=fc) (dc:=dc) hD hE hX hJ);have hN:Below W.heap.size W W:=Below.refl _ _;clear cC cD C46 C47 HK hQ hB hF hX hG hJ hA hK hp hd hD hE;dsimp only;unfold elem15n7 Am
 conv=>arg 2;whnf
 go_wp2_with fail
 go_region_with (first
  | (go_at_call 127;refine (hL.out _ (by first|assumption|exact Aj (by assumption) _)).mono ?_;rintro e w5 ⟨fa,fc,rfl,h5,hI⟩;have k51:=(hC.out _ hI).1;have k52:=(hC.out _ hI).2.1)
  | (go_at_call 128;refine (hM.out _ (by first|assumption|exact Aj (by assumption) _)).mono ?_;rintro e w6 ⟨da,dc,rfl,h6,hH⟩;have k61:=(hC.out _ hH).2.2.1;have k62:=(hC.out _ hH).2.2.2.1;have k63:=(hC.out _ hH).2.2.2.2.1;have k64:=(hC.out _ hH).2.2.2.2.2))
 all_goals
  exact HQ.out _ _ _ _ _ (HM.out _ _ _ _ _ _ _ hI h5.out.2 (by first|exact Below.refl _ _|exact Aj (Below.refl _ _) _) h6.out.2 h6.out.1) _ _ _ _ _ _ _ _ _ _ _ _ _ _ _ _ _ _ _ _ _ _ _ _ _ _ _ _ _ _ _ _ _ _ _ _ _ _ _ _ _ _ _ _ _ _ _ _ _ _ _ _ _ _ _ _ _ _ _ _ _ _ _ _ _ _ _ _ _ _ _ _ _ _ _ _ _ _ _ _ _ _ _ _ _ _ _ _ _ _ _ _ _ _ _
noncomputable def elem15n5:Code:=qe 5 Am
noncomputable def elem15n6:Code:=qe 6 Am
theorem TE(s:Ls)(lR lP B1 X E TB MT mR mP:Nat)(kR kP:List (Nm×Value))(hD:kR.length=lR)(hE:kP.length=lP)(ds:List Deferred)(W:World)(hB:W.heap[B1]?=some (.cells s.cells 30 (0,0)))(hT:W.heap[TB]?=some (.cells #[.map (some MT)] 190 (0,0)))(hM:∃kvs:List (Int×Value),MapAt kI W MT kvs∧Au kvs 1=some (.map (some mR))∧Au kvs 2=some (.map (some mP)))(hR:MapAt sv W mR kR)(hP:MapAt sv W mP kP)(K:Act→World→Prop)(Q:Exit→Act→World→Prop)
  (hK:lR=s.roles.length→lP=s.phrases.length→∀(f0 f5 f6 f7 f8 f9 aO aP aQ aR aS aT aU aV aW aX aY aZ ba bb bc bd be bf bg bh bi bj bk bl bm bn bo bp bq br bs bt bu bv bw bx bz bA bB bC bD bE bF bG bH bI bJ bK bL bM bN bO bP bQ bR bS bT bU bV bW bY bZ ca cb cc cd ce cf cg ch ci cj ck cm cn co cp cq cr cs ct cu cv cw cx cy cz cA cB:Value),K { tmps:=#[f0,.pointer (some ⟨B1,0,none⟩),.pointer (some ⟨X,0,none⟩),.pointer (some ⟨E,0,none⟩),.pointer (some ⟨TB,0,none⟩),f5,f6,f7,f8,f9,aO,aP,aQ,aR,aS,aT,aU,aV,aW,aX,aY,aZ,ba,bb,bc,bd,be,bf,bg,bh,bi,bj,bk,bl,bm,bn,bo,bp,bq,br,bs,bt,bu,bv,bw,bx,bz,bA,bB,bC,bD,bE,bF,bG,bH,bI,bJ,bK,bL,bM,bN,bO,bP,bQ,bR,bS,bT,bU,bV,bW,bY,bZ,ca,cb,cc,cd,ce,cf,cg,ch,ci,cj,ck,cm,cn,co,cp,cq,cr,cs,ct,cu,cv,cw,cx,cy,cz,cA,cB],defers:=ds } W)
  (hC:¬(lR=s.roles.length∧lP=s.phrases.length)→∀(f0 f5 f6 f7 f8 f9 aO aP aQ aR aS aT aU aV aW aX aY aZ ba bb bc bd be bf bg bh bi bj bk bl bm bn bo bp bq br bs bt bu bv bw bx bz bA bB bC bD bE bF bG bH bI bJ bK bL bM bN bO bP bQ bR bS bT bU bV bW bY bZ ca cb cc cd ce cf cg ch ci cj ck cm cn co cp cq cr cs ct cu cv cw cx cy cz cA cB:Value),Q (.panic (Aw 171)) { tmps:=#[f0,.pointer (some ⟨B1,0,none⟩),.pointer (some ⟨X,0,none⟩),.pointer (some ⟨E,0,none⟩),.pointer (some ⟨TB,0,none⟩),f5,f6,f7,f8,f9,aO,aP,aQ,aR,aS,aT,aU,aV,aW,aX,aY,aZ,ba,bb,bc,bd,be,bf,bg,bh,bi,bj,bk,bl,bm,bn,bo,bp,bq,br,bs,bt,bu,bv,bw,bx,bz,bA,bB,bC,bD,bE,bF,bG,bH,bI,bJ,bK,bL,bM,bN,bO,bP,bQ,bR,bS,bT,bU,bV,bW,bY,bZ,ca,cb,cc,cd,ce,cf,cg,ch,ci,cj,ck,cm,cn,co,cp,cq,cr,cs,ct,cu,cv,cw,cx,cy,cz,cA,cB],defers:=ds } W)
:
  elem15n5.wp Tryz.prog (Exit.then K Q) { tmps:=#[e0,.pointer (some ⟨B1,0,none⟩),.pointer (some ⟨X,0,none⟩),.pointer (some ⟨E,0,none⟩),.pointer (some ⟨TB,0,none⟩),e5,e6,e7,e8,e9,ea,eb,ec,ed,ee,ef,eg,eh,ei,ej,ek,el,em,en,eo,ep,eq,er,es,et,eu,ev,ew,ex,ey,ez,eA,eB,eC,eD,eE,eF,eG,eH,eI,eJ,eK,eL,eM,eN,eO,eP,eQ,eR,eS,eT,eU,eV,eW,eX,eY,eZ,aa,ab,ac,ae,af,ag,ah,ai,aj,ak,al,am,an,ao,ap,aq,ar,au,av,aw,ax,ay,az,aA,aB,aC,aD,aE,aF,aG,aH,aI,aJ,aK,aL,aM,aN],defers:=ds } W:=by
 obtain ⟨kvs,m1,m2,m3⟩:=hM
 have hH:(Instr.lookup 190 (.map (some MT)) (int i64 1) false).run Tryz.prog W=.ok (.map (some mR)) W:=by
  have:=Bi (P:=Tryz.prog) Bz Tryz.underlying190 Tryz.underlying185 m1 1 (Tryz.zeroValue181 _) false;unfold kI at this;simpa [m2] using this
 have hI:(Instr.lookup 190 (.map (some MT)) (int i64 2) false).run Tryz.prog W=.ok (.map (some mP)) W:=by
  have:=Bi (P:=Tryz.prog) Bz Tryz.underlying190 Tryz.underlying185 m1 2 (Tryz.zeroValue181 _) false;unfold kI at this;simpa [m3] using this
 have hF:=λty=>Il (P:=Tryz.prog) (T:=181) Tryz.underlying181 hR ty
 have hG:=λty=>Il (P:=Tryz.prog) (T:=181) Tryz.underlying181 hP ty
 rw [hD] at hF;rw [hE] at hG;unfold Ls.cells at hB;have c6:=Aa hB 6 rfl;have c10:=Aa hB 10 rfl;have cT:=Aa hT 0 rfl;have HK:=qh hK;have hA:=qh hC;clear hK hC hB hT hR hP m1 m2 m3 hD hE;generalize s.roles.length=nR at *;generalize s.phrases.length=nP at *;by_cases e1:lR=nR
 ·have d1:((lR:Int)==(nR:Int))=true:=by rw [e1];simp
  by_cases e2:lP=nP
  ·have d2:((lP:Int)==(nP:Int))=true:=by rw [e2];simp
   have HF:=qh (HK.out e1 e2);clear e1 e2 HK hA;dsimp only;unfold elem15n5 Am
   conv=>arg 2;whnf
   go_wp2_with (go_at_call 126;refine (Bv _ _).mono ?_;rintro e w' ⟨rfl,rfl⟩);exact HF.out _ _ _ _ _ _ _ _ _ _ _ _ _ _ _ _ _ _ _ _ _ _ _ _ _ _ _ _ _ _ _ _ _ _ _ _ _ _ _ _ _ _ _ _ _ _ _ _ _ _ _ _ _ _ _ _ _ _ _ _ _ _ _ _ _ _ _ _ _ _ _ _ _ _ _ _ _ _ _ _ _ _ _ _ _ _ _ _ _ _ _ _ _ _ _
  ·have d2:((lP:Int)==(nP:Int))=false:=by simp;omega
   have HF:=qh (hA.out (λh=>e2 h.2));clear e1 e2 HK hA;dsimp only;unfold elem15n5 Am
   conv=>arg 2;whnf
   go_wp2_with (go_at_call 126;refine (AE _ _).mono ?_;unfold Ak;rintro e w' ⟨rfl,rfl⟩);exact HF.out _ _ _ _ _ _ _ _ _ _ _ _ _ _ _ _ _ _ _ _ _ _ _ _ _ _ _ _ _ _ _ _ _ _ _ _ _ _ _ _ _ _ _ _ _ _ _ _ _ _ _ _ _ _ _ _ _ _ _ _ _ _ _ _ _ _ _ _ _ _ _ _ _ _ _ _ _ _ _ _ _ _ _ _ _ _ _ _ _ _ _ _ _ _ _
 ·have d1:((lR:Int)==(nR:Int))=false:=by simp;omega
  have HF:=qh (hA.out (λh=>e1 h.1));clear e1 HK hA;dsimp only;unfold elem15n5 Am
  conv=>arg 2;whnf
  go_wp2_with (go_at_call 126;refine (AE _ _).mono ?_;unfold Ak;rintro e w' ⟨rfl,rfl⟩);exact HF.out _ _ _ _ _ _ _ _ _ _ _ _ _ _ _ _ _ _ _ _ _ _ _ _ _ _ _ _ _ _ _ _ _ _ _ _ _ _ _ _ _ _ _ _ _ _ _ _ _ _ _ _ _ _ _ _ _ _ _ _ _ _ _ _ _ _ _ _ _ _ _ _ _ _ _ _ _ _ _ _ _ _ _ _ _ _ _ _ _ _ _ _ _ _ _
theorem TF(s:Ls)(B1 X E TB:Nat)(xs:Array Value)(hA:xs.size=12)(ds:List Deferred)(W:World)(hB:W.heap[B1]?=some (.cells s.cells 30 (0,0)))(hX:W.heap[X]?=some (.cells xs 30 (0,0)))(K:Act→World→Prop)
  (hK:∀W',W'.heap[X]?=some (.cells s.cells 30 (0,0))→(∀b,b≠X→W'.heap[b]?=W.heap[b]?)→(∀B w0,Below B w0 W→B≤X→Below B w0 W')→W'.heap.size=W.heap.size→∀(f0 f5 f6 f7 f8 f9 aO aP aQ aR aS aT aU aV aW aX aY aZ ba bb bc bd be bf bg bh bi bj bk bl bm bn bo bp bq br bs bt bu bv bw bx bz bA bB bC bD bE bF bG bH bI bJ bK bL bM bN bO bP bQ bR bS bT bU bV bW bY bZ ca cb cc cd ce cf cg ch ci cj ck cm cn co cp cq cr cs ct cu cv cw cx cy cz cA cB:Value),K { tmps:=#[f0,.pointer (some ⟨B1,0,none⟩),.pointer (some ⟨X,0,none⟩),.pointer (some ⟨E,0,none⟩),.pointer (some ⟨TB,0,none⟩),f5,f6,f7,f8,f9,aO,aP,aQ,aR,aS,aT,aU,aV,aW,aX,aY,aZ,ba,bb,bc,bd,be,bf,bg,bh,bi,bj,bk,bl,bm,bn,bo,bp,bq,br,bs,bt,bu,bv,bw,bx,bz,bA,bB,bC,bD,bE,bF,bG,bH,bI,bJ,bK,bL,bM,bN,bO,bP,bQ,bR,bS,bT,bU,bV,bW,bY,bZ,ca,cb,cc,cd,ce,cf,cg,ch,ci,cj,ck,cm,cn,co,cp,cq,cr,cs,ct,cu,cv,cw,cx,cy,cz,cA,cB],defers:=ds } W')
:
  elem15n6.wp Tryz.prog (Exit.then K (λ_ _ _=>False)) { tmps:=#[e0,.pointer (some ⟨B1,0,none⟩),.pointer (some ⟨X,0,none⟩),.pointer (some ⟨E,0,none⟩),.pointer (some ⟨TB,0,none⟩),e5,e6,e7,e8,e9,ea,eb,ec,ed,ee,ef,eg,eh,ei,ej,ek,el,em,en,eo,ep,eq,er,es,et,eu,ev,ew,ex,ey,ez,eA,eB,eC,eD,eE,eF,eG,eH,eI,eJ,eK,eL,eM,eN,eO,eP,eQ,eR,eS,eT,eU,eV,eW,eX,eY,eZ,aa,ab,ac,ae,af,ag,ah,ai,aj,ak,al,am,an,ao,ap,aq,ar,au,av,aw,ax,ay,az,aA,aB,aC,aD,aE,aF,aG,aH,aI,aJ,aK,aL,aM,aN],defers:=ds } W:=by
 unfold Ls.cells at hB hK;obtain ⟨W',x',g',o',b',s'⟩:=FO hX hA (sv s.name) (int i64 s.wd) (int i64 s.dp) (int i64 s.bars) (int i64 s.t0) (int i64 s.t1) (.slice s.ra s.roles.length s.rc) (.slice s.ta s.tempos.length s.tc) (.slice s.ua s.pauses.length s.uc) (.slice s.sa s.spans.length s.sc) (.slice s.fa s.phrases.length s.fc) (.slice s.da s.dances.length s.dc);have y0:=Aa hB 0 rfl;have y1:=Aa hB 1 rfl;have y2:=Aa hB 2 rfl;have y3:=Aa hB 3 rfl;have y4:=Aa hB 4 rfl;have y5:=Aa hB 5 rfl;have y6:=Aa hB 6 rfl;have y7:=Aa hB 7 rfl;have y8:=Aa hB 8 rfl;have y9:=Aa hB 9 rfl;have y10:=Aa hB 10 rfl;have y11:=Aa hB 11 rfl
 obtain ⟨x0,x1,x2,x3,x4,x5,x6,x7,x8,x9,cC,cD,rfl⟩:∃x0 x1 x2 x3 x4 x5 x6 x7 x8 x9 cC cD,xs=#[x0,x1,x2,x3,x4,x5,x6,x7,x8,x9,cC,cD]:=by
  obtain ⟨l⟩:=xs
  match l,hA with
  | [a,b,c,d,e,f,g,h,i,j,k,l],_=>exact ⟨a,b,c,d,e,f,g,h,i,j,k,l,rfl⟩
 have z0:=Aa hX 0 rfl;have z1:=Aa hX 1 rfl;have z2:=Aa hX 2 rfl;have z3:=Aa hX 3 rfl;have z4:=Aa hX 4 rfl;have z5:=Aa hX 5 rfl;have z6:=Aa hX 6 rfl;have z7:=Aa hX 7 rfl;have z8:=Aa hX 8 rfl;have z9:=Aa hX 9 rfl;have z10:=Aa hX 10 rfl;have z11:=Aa hX 11 rfl;have hC:∀q,W.frozen? ⟨X,q,none⟩=false:=λq=>(show FreeB W X from ⟨_,_,hX⟩).free q
 have h0:=hC 0;have HF:=qh (hK W' g' o' b' s');clear hK g' o' b' s' hB hX hA;dsimp only;unfold elem15n6 Am
 conv=>arg 2;whnf
 go_wp2_with fail;exact HF.out _ _ _ _ _ _ _ _ _ _ _ _ _ _ _ _ _ _ _ _ _ _ _ _ _ _ _ _ _ _ _ _ _ _ _ _ _ _ _ _ _ _ _ _ _ _ _ _ _ _ _ _ _ _ _ _ _ _ _ _ _ _ _ _ _ _ _ _ _ _ _ _ _ _ _ _ _ _ _ _ _ _ _ _ _ _ _ _ _ _ _ _ _ _ _
theorem E9:∀(T:Lt) (d:Nat) (left l:Int),left≤4096→T.strip.count d left=some l→l≤left∧T.small
 | .nil,d,left,l,h,e=>by
  simp only [Lt.strip,Its.count,Option.some.injEq] at e;exact ⟨by omega,trivial⟩
 | .cons k n un ia ic its ma mc ms r,d,left,l,h,e=>by
  simp only [Lt.strip,Its.count] at e
  split at e
  ·rename_i hc
   obtain ⟨c1,c2,_⟩:=hc;rw [Lt.strip_len] at c2
   split at e
   ·cases e
   ·rename_i l1 e1
    obtain ⟨a1,a2⟩:=E9 its _ _ _ (by omega) e1;obtain ⟨b1,b2⟩:=E9 r _ _ _ (by omega) e;exact ⟨by omega,⟨by omega,by omega,a2,b2⟩⟩
  ·cases e
theorem Fd:∀(ps:List Ph) (left l:Int),left≤4096→countP (ps.map Ph.strip) left=some l→∀p∈ps,p.its.len≤100000∧p.its.small
 | [],_,_,_,_,p,hp=>by cases hp
 | q::r,left,l,h,e,p,hp=>by
  simp only [List.map_cons,countP] at e
  split at e
  ·cases e
  ·rename_i l1 e1
   unfold Its.countL at e1
   split at e1
   ·rename_i hc
    obtain ⟨c1,_⟩:=hc;simp only [Ph.strip,Lt.strip_len] at c1 e1;obtain ⟨a1,a2⟩:=E9 q.its _ _ _ (by omega) e1;rcases List.mem_cons.1 hp with rfl|hp
    ·exact ⟨by omega,a2⟩
    ·exact Fd r _ _ (by omega) e p hp
   ·cases e1
theorem DS{s:Ls}(h:s.strip.lims=true):s.phrases.length≤64∧s.dances.length≤256∧s.roles.length≤64∧∀p∈s.phrases,p.its.len≤100000∧p.its.small:=by
 unfold Sc.lims at h;simp only [Bool.and_eq_true] at h;have hf:=JE.1 h.1;simp only [Ls.strip,List.length_map] at hf;obtain ⟨l,hl⟩:=Option.isSome_iff_exists.1 h.2;exact ⟨hf.2.2.2.2.1,hf.2.2.2.2.2,hf.1,Fd s.phrases 4096 l (by omega) hl⟩
def Lr(s:Ls)(ns:List Int)(w:World)(e:Ending)(w':World):Prop :=
 ((Db s.strip ns=0∧∃(x:Ls) (ks:List Int),e=.returned (.tuple #[x.val,int i64 0])∧x.strip=s.strip∧x.At w'∧NsAt w' x.refs ks∧s.strip.idx ns=some ks∧x.Sep∧(∀r∈x.refs,w.heap.size≤r.b∧FreeB w' r.b)) ∨
  (Db s.strip ns≠0∧e=.returned (.tuple #[.agg CJ,int i64 (Db s.strip ns)])))∧Below w.heap.size w w'
theorem C3{K:Act→World→Prop}{Q:Exit→Act→World→Prop}:∀e a w,Exit.then K (λ_ _ _=>False) e a w→Exit.then K Q e a w
 | .normal,_,_,h=>h
 | .ret,_,_,h=>h.elim
 | .panic _,_,_,h=>h.elim
 | .outgrown,_,_,h=>h.elim
 | .exit _,_,_,h=>h.elim
 | .goto _,_,_,h=>h.elim
structure R5(s:Ls)(w0:World)(B1 X E TB MT mR mP:Nat)(W:World):Prop where
 b1:W.heap[B1]?=some (.cells s.cells 30 (0,0))
 x:W.heap[X]?=some (.cells CJ 30 (0,0))
 e:W.heap[E]?=some (.cells #[int i64 0] 40 (0,0))
 tb:W.heap[TB]?=some (.cells #[.map (some MT)] 190 (0,0))
 mt:∃kvs:List (Int×Value),MapAt kI W MT kvs∧Au kvs 1=some (.map (some mR))∧Au kvs 2=some (.map (some mP))
 mr:MapAt sv W mR (BB (s.roles.map Rol.name))
 mp:MapAt sv W mP (BB (s.phrases.map Ph.name))
 base:Below w0.heap.size w0 W
 ge:w0.heap.size≤X∧w0.heap.size≤E∧w0.heap.size≤TB
 ne:B1≠X
theorem UX:Ab 5 Am=.seq elem15n5 (Ab 6 Am):=rfl
theorem UY:Ab 6 Am=.seq elem15n6 (Ab 7 Am):=rfl
theorem UZ:Ab 7 Am=.seq elem15n7 (Ab 8 Am):=rfl
theorem Va:Ab 8 Am=.seq elem15n8 Fp:=rfl
theorem C1(s:Ls):s.strip.rnames=s.roles.map Rol.name:=rfl
theorem C0(s:Ls):s.strip.pnames=s.phrases.map Ph.name:=by
 unfold Sc.pnames Ls.strip;simp [Ph.strip,Function.comp]
theorem NO{A:List Ph}{ps:List Ph}(h:A.map Ph.strip=ps.map Ph.strip):A.map Ph.name=ps.map Ph.name:=by
 have:=congrArg (List.map Phr.name) h;rw [List.map_map,List.map_map] at this;exact this
theorem Fq{w:World}{b:Nat}:∀{o:Nat} {ps:List Ph},Bk w b o ps→∀c∈AZ ps,c<w.heap.size
 | _,[],_,c,h=>by cases h
 | o,p::r,⟨⟨_,_,h3⟩,h⟩,c,hc=>by
  unfold AZ at hc;rw [List.flatMap_cons,List.mem_append] at hc;rcases hc with hc|hc
  ·unfold Lt.own at hc
   rw [List.mem_append] at hc;rcases hc with hc|hc
   ·split at hc
    ·cases hc
    ·rename_i hl
     rw [List.mem_singleton.1 hc];exact h3.2.2.lt hl
   ·exact h3.2.2.blocks_lt c hc
  ·exact Fq h c hc
theorem ButOne.blocks{R:Nat}{W W':World}(h:ButOne R W W'){b:Nat}{o:Obj}(hb:W.heap[b]?=some o)(hr:b≠R):W'.heap[b]?=some o :=
 (h.block b (qs.1 hb).1 hr).trans hb
theorem J7(s:Ls)(ns n1 n1' n2:List Int)(w0:World)(hA:s.At w0)(hs:ns=n1++n2)(hK:s.strip.lims=true)(hI:s.strip.named=true)(hR:s.strip.apart=true)
  (x:Ls) (hB:x.strip=s.strip) (hZ:x.phrases=[]∨x.fa=some ⟨blk x.fa,0,none⟩) (ha:x.dances=[]∨x.da=some ⟨blk x.da,0,none⟩) (he:x.phrases.length≤maxLen) (hg:x.dances.length≤maxLen)
  (hL:x.ra=s.ra∧x.rc=s.rc∧x.ta=s.ta∧x.tc=s.tc∧x.ua=s.ua∧x.uc=s.uc∧x.sa=s.sa∧x.sc=s.sc)
  (B1 X E TB MT mR mP:Nat) (W:World) (hW:W.heap[X]?=some (.cells x.cells 30 (0,0))∧W.heap[E]?=some (.cells #[int i64 0] 40 (0,0))∧W.heap[TB]?=some (.cells #[.map (some MT)] 190 (0,0)))
  (ht:∃kvs:List (Int×Value),MapAt kI W MT kvs∧Au kvs 1=some (.map (some mR))∧Au kvs 2=some (.map (some mP))) (hh:MapAt sv W mR (BB (s.roles.map Rol.name))) (hi:MapAt sv W mP (BB (s.phrases.map Ph.name)))
  (hF:Below w0.heap.size w0 W) (hS:w0.heap.size≤X∧w0.heap.size≤E∧w0.heap.size≤TB)
  (hu:Bk W (blk x.fa) (off x.fa) x.phrases) (hv:Bw W (blk x.da) (off x.da) x.dances) (hw:NsAt W (Ar x.phrases) n1) (hy:NsAt W (Ao (blk x.da) (off x.da) x.dances) n2) (hM:x.Sep) (hG:∀r∈x.refs,FreeB W r.b) (hC:∀r∈x.refs,w0.heap.size≤r.b∧r.b≠X∧r.b≠E∧r.b≠TB) (hH:∀c∈AZ x.phrases,c≠X∧c≠E) (hj:x.phrases≠[]→blk x.fa≠X∧blk x.fa≠E)
:
  Dz 89 Tryz.prog Fp (bodyPostM Fence.wide 0 Tryz.prog Tryz.f89 (Lr s ns w0)) { tmps:=#[e0,.pointer (some ⟨B1,0,none⟩),.pointer (some ⟨X,0,none⟩),.pointer (some ⟨E,0,none⟩),.pointer (some ⟨TB,0,none⟩),e5,e6,e7,e8,e9,ea,eb,ec,ed,ee,ef,eg,eh,ei,ej,ek,el,em,en,eo,ep,eq,er,es,et,eu,ev,ew,ex,ey,ez,eA,eB,eC,eD,eE,eF,eG,eH,eI,eJ,eK,eL,eM,eN,eO,eP,eQ,eR,eS,eT,eU,eV,eW,eX,eY,eZ,aa,ab,ac,ae,af,ag,ah,ai,aj,ak,al,am,an,ao,ap,aq,ar,au,av,aw,ax,ay,az,aA,aB,aC,aD,aE,aF,aG,aH,aI,aJ,aK,aL,aM,aN],defers:=[dfr X E] } W:=by
 obtain ⟨hX,hE,hT⟩:=hW;have h0:X≠E:=λe=>by rw [e,hE] at hX;cases hX
 have hO:(s.roles.map Rol.name).Nodup∧(s.phrases.map Ph.name).Nodup:=by
  unfold Sc.apart at hR;rw [C1,C0] at hR;simpa using hR
 have hP:x.refs.map RefL.key=s.strip.refs:=by rw [Ls.refs_key,hB]
 have hl:Db s.strip ns=if (s.strip.idx ns).isSome then 0 else 170:=by
  unfold Db;rw [hK,hI,hR];rfl
 have h3:∀r∈x.refs,r.b<W.heap.size:=λr hr=>(hG r hr).lt
 have h4:=dfr X E;refine O3 ⟨x,ns,w0,X,E,W.heap.size,TB,MT,mR,mP,s.roles.map Rol.name,s.phrases.map Ph.name,W.heap.size+1⟩ ⟨hM,λr hr=>⟨(hC r hr).2.1,(hC r hr).2.2.1,λe=>by have:=h3 r hr;simp only at e;omega,(hC r hr).2.2.2,(hC r hr).1⟩,hO.1,hO.2⟩
  (hZ.imp_right λh=>by rw [h];rfl) he (ha.imp_right λh=>by rw [h];rfl) hg h0 ⟨hS.1,hS.2.1⟩ B1 W rfl rfl ?_ _ ?_ ?_ _ _ _ _ _ _ _ _ _ _ _ _ _ _ _ _ _ _ _ _ _ _ _ _ _ _ _ _ _ _ _ _ _ _ _ _ _ _ _ _ _ _ _ _ _ _ _ _ _ _ _ _ _ _ _ _ _ _ _ _ _ _ _ _ _ _ _ _ _ _ _ _ _ _ _ _ _ _ _ _ _ _ _ _ _ _ _ _ _ _ _ _ _ _ _
 ·intro W1 hb hk
  obtain ⟨kvs,m1,m2,m3⟩:=ht;have ho:∀{b:Nat} {o:Obj},W.heap[b]?=some o→W1.heap[b]?=some o:=λh=>(hb.block _ (qs.1 h).1).trans h
  exact ⟨ho hX,ho hE,hk,Ad hb (Aa hT 0 rfl),⟨kvs,m1.below hb m1.lt,m2,m3⟩,hh.below hb hh.lt,hi.below hb hi.lt,Bd hb hu,Dp hb hv,⟨[],x.refs,[],ns,rfl,rfl,rfl,trivial,by rw [hs];exact (hw.append hy).below hb⟩,λr hr=>(hG r hr).below hb,hF.trans (hb.mono hF.size)⟩
 ·intro ks V W' h5 hJ hN hp hd hn hV h6 h7 h8 hY hU
  have hD:s.strip.idx ns=some ks:=by
   unfold Sc.idx;rw [if_pos (by rw [← hB];exact hJ),C1,C0,← hP];exact h5
  dsimp only at hV hU hN hp hd hn;have hQ:Below w0.heap.size w0 W':=hV.trans ⟨h7,h8,hY,h6,λb hb=>hU b (Nat.lt_of_lt_of_le hb hV.size) (by have:=hS.1;omega) (by have:=hS.2.1;omega)⟩;have kc:∀{b q:Nat} {v:Value},b≠X→b≠E→V.cell? ⟨b,q,none⟩=some v→W'.cell? ⟨b,q,none⟩=some v:=λh1 h2 h=>(World.cell?_of_block (hU _ (CN h) h1 h2)).trans h
  obtain ⟨w1,w2,w3,w4,w5,w6,w7,w8⟩:=hL;have q1:x.roles=s.roles:=congrArg Sc.roles hB;have q2:x.tempos=s.tempos:=congrArg Sc.tempos hB;have q3:x.pauses=s.pauses:=congrArg Sc.pauses hB;have q4:x.spans=s.spans:=congrArg Sc.spans hB
  have hq:x.dances≠[]→blk x.da≠X∧blk x.da≠E:=λhz=>by
   obtain ⟨d,r,h9⟩:∃d r,x.dances=d::r:=by
    cases hx:x.dances with
    | nil=>exact absurd hx hz
    | cons d r=>exact ⟨d,r,rfl⟩
   have hm:(⟨blk x.da,off x.da,1,d.rn⟩:RefL)∈x.refs:=by unfold Ls.refs;rw [h9];simp [Ao]
   exact ⟨(hC _ hm).2.1,(hC _ hm).2.2.1⟩
  refine ⟨Or.inl ⟨by rw [hl,hD];rfl,x,ks,rfl,hB,⟨?_,?_,?_,?_,hZ.imp_right λh=>by rw [h];rfl,he,?_,ha.imp_right λh=>by rw [h];rfl,hg,?_⟩,?_,hD,hM,λr hr=>⟨(hC r hr).1,?_⟩⟩,hQ⟩
  ·rw [w1,w2,q1];exact hA.roles.below hQ (qn _)
  ·rw [w3,w4,q2];exact hA.tempos.below hQ (qn _)
  ·rw [w5,w6,q3];exact hA.pauses.below hQ (qn _)
  ·rw [w7,w8,q4];exact hA.spans.below hQ (qn _)
  ·by_cases hz:x.phrases=[]
   ·rw [hz];trivial
   ·exact CD hp (λq v _ hc=>kc (hj hz).1 (hj hz).2 hc) (λc hc q v h=>kc (hH c hc).1 (hH c hc).2 h)
  ·by_cases hz:x.dances=[]
   ·rw [hz];trivial
   ·exact C9 hd (λq v _ hc=>kc (hq hz).1 (hq hz).2 hc)
  ·exact hN.kept λr hr v hc=>kc (hC r hr).2.1 (hC r hr).2.2.1 hc
  ·obtain ⟨cur,t,hc⟩:=hn r hr
   exact ⟨cur,t,(hU _ (qs.1 hc).1 (hC r hr).2.1 (hC r hr).2.2.1).trans hc⟩
 ·intro W' hf hb
  have hD:s.strip.idx ns=none:=by
   unfold Sc.idx;rw [C1,C0,← hP,← hB];rcases hf with h|h
   ·rw [if_neg (by rw [h];simp)]
   ·split
    ·exact h
    ·rfl
  refine ⟨Or.inr ?_,hb⟩;rw [hl,hD];exact ⟨by decide,rfl⟩
theorem MapAt.but{κ:Type}[DecidableEq κ]{f:κ→Value}{R:Nat}{W W':World}{b:Nat}{kvs:List (κ×Value)}(h:MapAt f W b kvs)(hb:ButOne R W W')(hr:b≠R):MapAt f W' b kvs:=h.of_block (hb.block _ h.lt hr)
theorem MapAt.ne{κ:Type}[DecidableEq κ]{f:κ→Value}{W:World}{b X:Nat}{kvs:List (κ×Value)}{cs:Array Value}{t:TypeId}{z:Nat×Nat}(h:MapAt f W b kvs)(hX:W.heap[X]?=some (.cells cs t z)):b≠X:=λe=>by
 obtain ⟨es,cl,h1,_⟩:=h;rw [e,hX] at h1;cases h1
theorem RowNew.form{W W':World}{ao:Option Addr}{n:Nat}(h:RowNew W W' ao n)(hn:n≠0):ao=some ⟨blk ao,0,none⟩∧W.heap.size≤blk ao∧FreeB W' (blk ao):=h.resolve_left hn
theorem FreeB.but{R:Nat}{W W':World}{c:Nat}(h:FreeB W c)(hb:ButOne R W W')(hr:c≠R):FreeB W' c:=by
 obtain ⟨cur,t,h⟩:=h;exact ⟨cur,t,hb.blocks h hr⟩
theorem ButOne.cellk{R:Nat}{W W':World}(h:ButOne R W W'){b q:Nat}{v:Value}(hr:b≠R)(hc:W.cell? ⟨b,q,none⟩=some v):W'.cell? ⟨b,q,none⟩=some v:=h.cell hc hr
theorem O5(s:Ls)(ns n1 n2:List Int)(w0:World)(hA:s.At w0)(hh:ns=n1++n2)(hF:s.strip.lims=true)(hG:s.strip.named=true)(hi:s.strip.apart=true)
  (B1 X E TB MT mR mP:Nat) (W6 W7:World) (hE:W6.heap[E]?=some (.cells #[int i64 0] 40 (0,0))) (hT:W6.heap[TB]?=some (.cells #[.map (some MT)] 190 (0,0))) (hI:W6.heap[X]?=some (.cells s.cells 30 (0,0)))
  (hj:∃kvs:List (Int×Value),MapAt kI W6 MT kvs∧Au kvs 1=some (.map (some mR))∧Au kvs 2=some (.map (some mP))) (hY:MapAt sv W6 mR (BB (s.roles.map Rol.name))) (hZ:MapAt sv W6 mP (BB (s.phrases.map Ph.name)))
  (hC:Below w0.heap.size w0 W6) (ha:w0.heap.size≤X∧w0.heap.size≤E∧w0.heap.size≤TB) (hd:NsAt w0 (Ar s.phrases) n1)
  (fa da:Option Addr) (fc dc:Nat) (h7:R7 s n2 X W6 fa fc da dc W7)
:
  Dz 89 Tryz.prog (Ab 8 Am) (bodyPostM Fence.wide 0 Tryz.prog Tryz.f89 (Lr s ns w0)) { tmps:=#[e0,.pointer (some ⟨B1,0,none⟩),.pointer (some ⟨X,0,none⟩),.pointer (some ⟨E,0,none⟩),.pointer (some ⟨TB,0,none⟩),e5,e6,e7,e8,e9,ea,eb,ec,ed,ee,ef,eg,eh,ei,ej,ek,el,em,en,eo,ep,eq,er,es,et,eu,ev,ew,ex,ey,ez,eA,eB,eC,eD,eE,eF,eG,eH,eI,eJ,eK,eL,eM,eN,eO,eP,eQ,eR,eS,eT,eU,eV,eW,eX,eY,eZ,aa,ab,ac,ae,af,ag,ah,ai,aj,ak,al,am,an,ao,ap,aq,ar,au,av,aw,ax,ay,az,aA,aB,aC,aD,aE,aF,aG,aH,aI,aJ,aK,aL,aM,aN],defers:=[dfr X E] } W7:=by
 obtain ⟨lp,ld,_,lsm⟩:=DS hF;have h4:=(qs.1 hI).1;have h5:=(qs.1 hE).1;have h6:=(qs.1 hT).1;have hq:X≠E:=λe=>by rw [e,hE] at hI;cases hI
 have hs:X≠TB:=λe=>by rw [e,hT] at hI;simp at hI
 have h9:=h7.but.size;have hB:Below w0.heap.size w0 W7:=hC.trans (h7.but.below ha.1 hC.size)
 have hM:∃kvs:List (Int×Value),MapAt kI W7 MT kvs∧Au kvs 1=some (.map (some mR))∧Au kvs 2=some (.map (some mP)):=by
  obtain ⟨kvs,m1,m2,m3⟩:=hj;exact ⟨kvs,m1.but h7.but (m1.ne hI),m2,m3⟩
 have hN:=hY.but h7.but (hY.ne hI);have hO:=hZ.but h7.but (hZ.ne hI);have ht:MT<W6.heap.size:=by obtain ⟨kvs,m1,_⟩:=hj;exact m1.lt
 have hu:=hY.lt;have hv:=hZ.lt;have hk:=h7.but.blocks hE hq.symm;have hl:=h7.but.blocks hT hs.symm;have hJ:s.dances≠[]→da=some ⟨blk da,0,none⟩∧W6.heap.size≤blk da∧FreeB W7 (blk da):=λhz=>h7.dnn.form (λe=>hz (List.length_eq_zero_iff.1 e))
 have hP:s.dances≠[]→off da=0:=λhz=>by rw [(hJ hz).1];rfl
 have hQ:Bw W7 (blk da) (off da) s.dances:=by
  by_cases hz:s.dances=[]
  ·rw [hz];trivial
  ·rw [hP hz];exact h7.dan
 have hH:NsAt W7 (Ao (blk da) (off da) s.dances) n2:=by
  by_cases hz:s.dances=[]
  ·have:=h7.dn
   rw [hz] at this ⊢;exact this
  ·rw [hP hz];exact h7.dn
 have hn:s.dances.length≤maxLen:=by unfold maxLen;omega
 have ho:s.phrases.length≤maxLen:=by unfold maxLen;omega
 rw [Va];refine AH (λK hK=>?_);by_cases hD:s.phrases=[]
 ·have hw:s.phrases.length=0:=by rw [hD];rfl
  have hy:n1=[]:=by
   rw [hD] at hd
   cases n1 with
   | nil=>rfl
   | cons=>exact hd.elim
  refine wp_mono (Ma B1 X E TB _ fa fc _ W7 h7.x (by show some (Value.slice fa s.phrases.length fc)=_;rw [hw]) K ?_) C3
  intros
  refine hK _ _ ?_;refine J7 s ns [] [] n2 w0 hA (by rw [hh,hy]) hF hG hi { s with fa:=fa,fc:=fc,da:=da,dc:=dc } rfl (Or.inl hD) ?_ ho hn ⟨rfl,rfl,rfl,rfl,rfl,rfl,rfl,rfl⟩ B1 X E TB MT mR mP W7 ⟨h7.x,hk,hl⟩ hM hN hO hB ha ?_ hQ (by simp only [hD];trivial) hH ⟨by simp only [hD];exact List.nodup_nil,by simp only [hD];exact List.not_mem_nil,λ_=>by simp only [hD];exact List.not_mem_nil,λ_ h=>absurd hD h⟩ ?_ ?_ (by simp only [hD];intro c hc;cases hc) (λh=>absurd hD h)
  ·by_cases hz:s.dances=[]
   ·exact Or.inl hz
   ·exact Or.inr (hJ hz).1
  ·simp only [hD];trivial
  ·intro r hr
   unfold Ls.refs at hr;simp only [hD,Ar,List.nil_append] at hr;obtain ⟨e1,_,e3,_⟩:=AW hr;rw [e1];exact (hJ e3).2.2
  ·intro r hr
   unfold Ls.refs at hr;simp only [hD,Ar,List.nil_append] at hr;obtain ⟨e1,_,e3,_⟩:=AW hr;rw [e1];have:=(hJ e3).2.1;have:=hC.size;omega
 ·have hp:s.phrases.length≠0:=λe=>hD (List.length_eq_zero_iff.1 e)
  obtain ⟨f1,f2,f3⟩:=h7.phn.form hp;have hg:=f3.lt;generalize hL:blk fa=g at *
  have hS:PhS s.phrases n1 w0.heap.size g 0 W7 [] s.phrases [] n1 W7:=by
   refine ⟨rfl,rfl,rfl,trivial,trivial,?_,?_,by simp [AZ],(λb hb=>by cases hb),⟨by have:=hC.size;omega,f3⟩,Fq hA.phrases,lsm,ButOne.refl _ _⟩
   ·have:=h7.ph;rw [hL] at this;exact this
   ·exact hd.below hB
  refine wp_mono (Mb s.phrases n1 w0.heap.size g s.phrases.length fc B1 X E TB _ _ W7 rfl (by omega) h7.x (by show some (Value.slice fa s.phrases.length fc)=_;rw [f1]) (by omega) hg hS K ?_) C3;intro A n1' W8 hV h8
  intros
  refine hK _ _ ?_;have hR:A.map Ph.strip=s.phrases.map Ph.strip:=by have:=h8.strip;simpa using this
  have h0:n1'=n1:=by have:=h8.nseq;simpa using this
  subst h0;have HA:A≠[]:=λe=>by rw [e] at hV;exact hp hV.symm
  have he:=NO hR;have h3:=h8.but.size;have hW:∀b∈AZ A,W7.heap.size≤b∧FreeB W8 b:=h8.own;have hU:=List.nodup_cons.1 h8.apart;have hX:s.dances≠[]→blk da≠g:=λhz e=>h7.fd hz hD (by rw [hL];exact e.symm)
  have hf:s.dances≠[]→blk da<W7.heap.size:=λhz=>(hJ hz).2.2.lt
  refine J7 s ns n1' [] n2 w0 hA hh hF hG hi { s with fa:=fa,fc:=fc,da:=da,dc:=dc,phrases:=A } ?_ (Or.inr (by rw [hL];exact f1)) ?_ (by show A.length≤_;rw [hV];exact ho) hn ⟨rfl,rfl,rfl,rfl,rfl,rfl,rfl,rfl⟩ B1 X E TB MT mR mP W8 ⟨?_,h8.but.blocks hk (by omega),h8.but.blocks hl (by omega)⟩ ?_ (hN.but h8.but (by omega)) (hO.but h8.but (by omega)) (hB.trans (h8.but.below (by have:=hC.size;omega) hB.size)) ha ?_ ?_ h8.nsA ?_ ⟨hU.2,by rw [hL];exact hU.1,λhz hm=>?_,λhz _ e=>hX hz (by rw [← e];exact hL)⟩ ?_ ?_ ?_ (λ_=>by rw [hL];omega)
  ·show ({ s with fa:=fa,fc:=fc,da:=da,dc:=dc,phrases:=A }:Ls).strip=s.strip
   unfold Ls.strip;simp only [hR]
  ·by_cases hz:s.dances=[]
   ·exact Or.inl hz
   ·exact Or.inr (hJ hz).1
  ·have:=h8.but.blocks h7.x (by omega)
   rw [this];unfold Ly Ls.cells;rw [← hV]
  ·obtain ⟨kvs,m1,m2,m3⟩:=hM
   exact ⟨kvs,m1.but h8.but (by omega),m2,m3⟩
  ·show Bk W8 (blk fa) (off fa) A
   rw [hL,f1];exact h8.atA
  ·show Bw W8 (blk da) (off da) s.dances
   by_cases hz:s.dances=[]
   ·rw [hz];trivial
   ·exact C9 hQ (λq v _ hc=>h8.but.cellk (hX hz) hc)
  ·show NsAt W8 (Ao (blk da) (off da) s.dances) n2
   by_cases hz:s.dances=[]
   ·rw [hz] at hH ⊢
    cases n2 with
    | nil=>trivial
    | cons=>exact hH.elim
   ·exact hH.kept λx hx v hc=>h8.but.cellk (by rw [(AW hx).1];exact hX hz) hc
  ·have:=(hW _ hm).1
   have:=hf hz;simp only at *;omega
  ·intro r hr
   rcases List.mem_append.1 hr with hr|hr
   ·exact (hW _ (BK hr)).2
   ·obtain ⟨e1,_,e3,_⟩:=AW hr
    rw [e1];exact (hJ e3).2.2.but h8.but (hX e3)
  ·intro r hr
   rcases List.mem_append.1 hr with hr|hr
   ·have:=(hW _ (BK hr)).1
    have:=hB.size;exact ⟨by omega,by omega,by omega,by omega⟩
   ·obtain ⟨e1,_,e3,_⟩:=AW hr
    rw [e1];have h1:=(hJ e3).2.1;have h2:=hC.size;simp only;exact ⟨by omega,by omega,by omega,by omega⟩
  ·intro c hc
   have:=(hW _ hc).1;omega
theorem O4(s:Ls)(ns:List Int)(w0:World)(hA:s.At w0)(hN:NsAt w0 s.refs ns)(hC:s.strip.lims=true)(hD:s.strip.named=true)
  (B1 X E TB MT mR mP:Nat) (W:World) (h:R5 s w0 B1 X E TB MT mR mP W)
:
  Dz 89 Tryz.prog (Ab 5 Am) (bodyPostM Fence.wide 0 Tryz.prog Tryz.f89 (Lr s ns w0)) { tmps:=#[e0,.pointer (some ⟨B1,0,none⟩),.pointer (some ⟨X,0,none⟩),.pointer (some ⟨E,0,none⟩),.pointer (some ⟨TB,0,none⟩),e5,e6,e7,e8,e9,ea,eb,ec,ed,ee,ef,eg,eh,ei,ej,ek,el,em,en,eo,ep,eq,er,es,et,eu,ev,ew,ex,ey,ez,eA,eB,eC,eD,eE,eF,eG,eH,eI,eJ,eK,eL,eM,eN,eO,eP,eQ,eR,eS,eT,eU,eV,eW,eX,eY,eZ,aa,ab,ac,ae,af,ag,ah,ai,aj,ak,al,am,an,ao,ap,aq,ar,au,av,aw,ax,ay,az,aA,aB,aC,aD,aE,aF,aG,aH,aI,aJ,aK,aL,aM,aN],defers:=[dfr X E] } W:=by
 obtain ⟨n1,n2,hM,hO,hP⟩:=NsAt.split (xs:=Ar s.phrases) hN;obtain ⟨lp,ld,_,lsm⟩:=DS hC;have hL:X≠E:=λe=>by have:=h.x;rw [e,h.e] at this;cases this
 have hQ:TB≠X:=λe=>by have:=h.x;rw [← e,h.tb] at this;simp at this
 have hF:s.strip.apart=true↔(s.roles.map Rol.name).Nodup∧(s.phrases.map Ph.name).Nodup:=by
  unfold Sc.apart;rw [C1,C0];simp
 rw [UX];refine AH (λK hK=>?_);refine TE s _ _ B1 X E TB MT mR mP _ _ rfl rfl _ W h.b1 h.tb h.mt h.mr h.mp K _ ?_ ?_
 ·intro lR lP
  have hG:s.strip.apart=true:=hF.2 ⟨Eu.1 (by rw [lR];simp),Eu.1 (by rw [lP];simp)⟩
  intros
  refine hK _ _ ?_;rw [UY];refine AH (λK hK=>?_);refine wp_mono (TF s B1 X E TB CJ rfl _ W h.b1 h.x K ?_) C3;intro W6 g6 o6 b6 s6
  intros
  refine hK _ _ ?_;rw [UZ];refine AH (λK hK=>?_);have hH:Below w0.heap.size w0 W6:=b6 _ _ h.base h.ge.1;refine wp_mono (TG s n2 B1 X E TB _ W6 ((o6 _ h.ne).trans h.b1) g6 (λb hb e=>by have:=Fq hA.phrases b hb;have:=h.ge.1;omega) (hA.below hH) (hP.below hH) (by omega) (by omega) K ?_) C3;intro fa fc da dc W7 h7
  intros
  refine hK _ _ ?_;have hI:∀{κ:Type} [DecidableEq κ] {f:κ→Value} {b:Nat} {kvs:List (κ×Value)},MapAt f W b kvs→MapAt f W6 b kvs:=λhm=>hm.of_block (o6 _ (hm.ne h.x))
  refine O5 s ns n1 n2 w0 hA hM hC hD hG B1 X E TB MT mR mP W6 W7 ((o6 _ hL.symm).trans h.e) ((o6 _ hQ).trans h.tb) g6 ?_ (hI h.mr) (hI h.mp) hH h.ge hO fa da fc dc h7;obtain ⟨kvs,m1,m2,m3⟩:=h.mt;exact ⟨kvs,hI m1,m2,m3⟩
 ·intro hJ
  have hG:s.strip.apart=false:=by
   cases hc:s.strip.apart with
   | false=>rfl
   | true =>
    obtain ⟨a1,a2⟩:=hF.1 hc;exact absurd ⟨by simpa using Eu.2 a1,by simpa using Eu.2 a2⟩ hJ
  have hE:Db s.strip ns=171:=by unfold Db;rw [hC,hD,hG];rfl
  intros
  refine FI _ X E 171 _ _ _ W rfl rfl h.x rfl h.e hL λW' hB=>⟨Or.inr ?_,h.base.trans (hB _ h.ge.1 h.ge.2.1)⟩
  rw [hE];exact ⟨by decide,rfl⟩
end
section
open Go Go.RowKit Go.Shelf Go.Deep
noncomputable def elem15n4:Code:=qe 4 Am
def Qy(s:Ls)(X E:Nat)(ds:List Deferred)(wb:World):Exit→Act→World→Prop:=λe a W =>
 e=.panic (Aw 170)∧a.tmps.getD 2 undef=.pointer (some ⟨X,0,none⟩)∧a.tmps.getD 3 undef=.pointer (some ⟨E,0,none⟩)∧a.defers=ds∧Below wb.heap.size wb W∧((s.roles.map Rol.name).all AG=false∨(s.phrases.map Ph.name).all AG=false)
theorem Fe{s:Ls}{X E:Nat}{ds:List Deferred}{wb:World}{K:Act→World→Prop}{k:Nat}{v:Value}(h2:k≠2)(h3:k≠3)(c:List PanicEntry)(a:Act)(w:World)(h:Exit.then K (Qy s X E ds wb) (.panic c) (a.put (some k) v) w):Exit.then K (Qy s X E ds wb) (.panic c) a w:=by
 obtain ⟨h1,h4,h5,h6,h7,h8⟩:=h;refine ⟨h1,?_,?_,h6,h7,h8⟩
 ·rw [← h4];simp [Act.put,Array.getD_eq_getD_getElem?,Array.getElem?_setIfInBounds_ne h2]
 ·rw [← h5];simp [Act.put,Array.getD_eq_getD_getElem?,Array.getElem?_setIfInBounds_ne h3]
theorem TD(s:Ls)(B1 X E:Nat)(ds:List Deferred)(Wb:World)(hB:Wb.heap[B1]?=some (.cells s.cells 30 (0,0)))(hA:s.At Wb)(he:Env Wb)(K:Act→World→Prop)
  (hK:∀(MT mR mP TB:Nat) (W:World),Below Wb.heap.size Wb W→Wb.heap.size≤TB→(s.roles.map Rol.name).all AG=true→(s.phrases.map Ph.name).all AG=true→W.heap[TB]?=some (.cells #[.map (some MT)] 190 (0,0))→(∃kvs:List (Int×Value),MapAt kI W MT kvs∧Au kvs 1=some (.map (some mR))∧Au kvs 2=some (.map (some mP)))→MapAt sv W mR (BB (s.roles.map Rol.name))→MapAt sv W mP (BB (s.phrases.map Ph.name)) →
   ∀(f0 f5 f6 f7 f8 f9 aO aP aQ aR aS aT aU aV aW aX aY aZ ba bb bc bd be bf bg bh bi bj bk bl bm bn bo bp bq br bs bt bu bv bw bx bz bA bB bC bD bE bF bG bH bI bJ bK bL bM bN bO bP bQ bR bS bT bU bV bW bY bZ ca cb cc cd ce cf cg ch ci cj ck cm cn co cp cq cr cs ct cu cv cw cx cy cz cA cB:Value),K { tmps:=#[f0,.pointer (some ⟨B1,0,none⟩),.pointer (some ⟨X,0,none⟩),.pointer (some ⟨E,0,none⟩),.pointer (some ⟨TB,0,none⟩),f5,f6,f7,f8,f9,aO,aP,aQ,aR,aS,aT,aU,aV,aW,aX,aY,aZ,ba,bb,bc,bd,be,bf,bg,bh,bi,bj,bk,bl,bm,bn,bo,bp,bq,br,bs,bt,bu,bv,bw,bx,bz,bA,bB,bC,bD,bE,bF,bG,bH,bI,bJ,bK,bL,bM,bN,bO,bP,bQ,bR,bS,bT,bU,bV,bW,bY,bZ,ca,cb,cc,cd,ce,cf,cg,ch,ci,cj,ck,cm,cn,co,cp,cq,cr,cs,ct,cu,cv,cw,cx,cy,cz,cA,cB],defers:=ds } W)
:
  elem15n4.wp Tryz.prog (Exit.then K (Qy s X E ds Wb)) { tmps:=#[e0,.pointer (some ⟨B1,0,none⟩),.pointer (some ⟨X,0,none⟩),.pointer (some ⟨E,0,none⟩),e4,e5,e6,e7,e8,e9,ea,eb,ec,ed,ee,ef,eg,eh,ei,ej,ek,el,em,en,eo,ep,eq,er,es,et,eu,ev,ew,ex,ey,ez,eA,eB,eC,eD,eE,eF,eG,eH,eI,eJ,eK,eL,eM,eN,eO,eP,eQ,eR,eS,eT,eU,eV,eW,eX,eY,eZ,aa,ab,ac,ae,af,ag,ah,ai,aj,ak,al,am,an,ao,ap,aq,ar,au,av,aw,ax,ay,az,aA,aB,aC,aD,aE,aF,aG,aH,aI,aJ,aK,aL,aM,aN],defers:=ds } Wb:=by
 have hC:=hB;unfold Ls.cells at hC;have c6:=Aa hC 6 rfl;have c10:=Aa hC 10 rfl
 have hG:R4G B1 X E s.ra s.fa s.rc s.fc s.roles s.phrases ds Wb (Exit.then K (Qy s X E ds Wb)):=by
  refine ⟨λhb=>⟨Ad hb c6,Ad hb c10⟩,λW hb=>?_,λW hb=>?_,λt d W hb hD h2 h3 hd=>⟨rfl,h2,h3,hd,hb,hD⟩,?_⟩
  ·exact Si s.roles s.ra s.rc W (he.below hb) (hA.roles.below hb (qn _))
  ·exact Sj s.phrases s.fa s.fc W (he.below hb) ⟨hA.pform,hA.plen,Bd hb hA.phrases⟩
  ·intro W hb MT mR mP TB kvs _ _ _ gT hM h1 h2 hR hP okR okP hT g0 g5 g6 g7 g8 g9 g10 g11 g12 g13 g14 g15 g16 g25 g26 g27 g28 g29 g30 g31 g32 g33 g34 g35 g36 g37 g38 g39 g40 g41 g42 g43 g44 g45 g46 g47 g48 g49 g50 g51 g52 g53 g54 g55 g56 g57 g58 g59 g60 g61 g62 g63 g64 g65 g66 g67 g68 g69 g70 g71 g72 g73 g74 g75 g76 g77 g78 g79 g80 g81 g82 g83 g84 g85 g86 g87 g88 g89 g90 g91 g92 g93 g94 g95 g96 g97 g98
   exact hK MT mR mP TB W hb gT okR okP hT ⟨kvs,hM,h1,h2⟩ hR hP _ _ _ _ _ _ _ _ _ _ _ _ _ _ _ _ _ _ _ _ _ _ _ _ _ _ _ _ _ _ _ _ _ _ _ _ _ _ _ _ _ _ _ _ _ _ _ _ _ _ _ _ _ _ _ _ _ _ _ _ _ _ _ _ _ _ _ _ _ _ _ _ _ _ _ _ _ _ _ _ _ _ _ _ _ _ _ _ _ _ _ _ _ _ _
 have hS:R4S B1 s.ra s.fa s.rc s.fc s.roles.length s.phrases.length Wb:=hG.s (Below.refl _ _);have HN:=RE B1 X E s.ra s.fa s.rc s.fc s.roles s.phrases Wb hG (Wb.drew) (Aj (Below.refl _ _) 1);have hE:=qh HN;clear HN hG hK hB hC hA he c6 c10;unfold elem15n4 Am
 conv=>arg 2;whnf
 refine wp_region_held (S:=R4S B1 s.ra s.fa s.rc s.fc s.roles.length s.phrases.length) (by kernel_rfl) ?_;change wpAnyH _ _ _ _ _ _ _ _ Wb.drew;refine tq 1 _ (.pointer (some ⟨B1,6,none⟩)) rfl (by kernel_rfl) (Fe (k:=18) (by omega) (by omega)) (Or.inl ⟨by kernel_rfl,λw hw=>by go_simp⟩) hS ?_;simp only [Act.put,qz];refine tq 2 _ (.slice s.ra s.roles.length s.rc) rfl (by kernel_rfl) (Fe (k:=19) (by omega) (by omega)) (Or.inl ⟨by kernel_rfl,λw hw=>by have h6:=hw.1;go_simp⟩) hS ?_;simp only [Act.put,qz];refine tq 5 _ (.pointer (some ⟨B1,10,none⟩)) rfl (by kernel_rfl) (Fe (k:=21) (by omega) (by omega)) (Or.inl ⟨by kernel_rfl,λw hw=>by go_simp⟩) hS ?_;simp only [Act.put,qz];refine tq 6 _ (.slice s.fa s.phrases.length s.fc) rfl (by kernel_rfl) (Fe (k:=22) (by omega) (by omega)) (Or.inl ⟨by kernel_rfl,λw hw=>by have hF:=hw.2;go_simp⟩) hS ?_;simp only [Act.put,qz];exact hE.out _ _ _ _ _ _ _ _ _ _ _ _ _ _ _ _ _ _ _ _ _ _ _ _ _ _ _ _ _ _ _ _ _ _ _ _ _ _ _ _ _ _ _ _ _ _ _ _ _ _ _ _ _ _ _ _ _ _ _ _ _ _ _ _ _ _ _ _ _ _ _ _ _ _ _ _ _ _ _ _ _ _ _ _ _ _ _ _ _ _ _ _
end
section
open Go Go.RowKit Go.Shelf
noncomputable def elem15n0:Code:=qe 0 Am
noncomputable def elem15n1:Code:=qe 1 Am
noncomputable def elem15n2:Code:=qe 2 Am
noncomputable def elem15n3:Code:=qe 3 Am
theorem US:Am=.seq elem15n0 (Ab 1 Am):=rfl
theorem UT:Ab 1 Am=.seq elem15n1 (Ab 2 Am):=rfl
theorem UU:Ab 2 Am=.seq elem15n2 (Ab 3 Am):=rfl
theorem UV:Ab 3 Am=.seq elem15n3 (Ab 4 Am):=rfl
theorem UW:Ab 4 Am=.seq elem15n4 (Ab 5 Am):=rfl
theorem Af(w:World)(xs:Array Value)(t:TypeId):∃w',w.alloc (.cells xs t)=w'∧w'.heap[w.heap.size]?=some (.cells xs t (0,0))∧Below w.heap.size w w'∧w'.heap.size=w.heap.size+1 :=
 ⟨_,rfl,heap_alloc_new w _,(Below.refl w.heap.size w).alloc (qn _) _,by simp⟩
theorem Ty(s:Ls)(W:World)(K:Act→World→Prop)
  (hK:∀(W':World) (B1 X E:Nat),Below W.heap.size W W'→W.heap.size≤X→W.heap.size≤E→B1≠X→W'.heap[B1]?=some (.cells s.cells 30 (0,0))→W'.heap[X]?=some (.cells CJ 30 (0,0))→W'.heap[E]?=some (.cells #[int i64 0] 40 (0,0)) →
   ∀(e0 e4 e5 e6 e7 e8 e9 ea eb ec ed ee ef eg eh ei ej ek el em en eo ep eq er es et eu ev ew ex ey ez eA eB eC eD eE eF eG eH eI eJ eK eL eM eN eO eP eQ eR eS eT eU eV eW eX eY eZ aa ab ac ae af ag ah ai aj ak al am an ao ap aq ar au av aw ax ay az aA aB aC aD aE aF aG aH aI aJ aK aL aM aN:Value),K { tmps:=#[e0,.pointer (some ⟨B1,0,none⟩),.pointer (some ⟨X,0,none⟩),.pointer (some ⟨E,0,none⟩),e4,e5,e6,e7,e8,e9,ea,eb,ec,ed,ee,ef,eg,eh,ei,ej,ek,el,em,en,eo,ep,eq,er,es,et,eu,ev,ew,ex,ey,ez,eA,eB,eC,eD,eE,eF,eG,eH,eI,eJ,eK,eL,eM,eN,eO,eP,eQ,eR,eS,eT,eU,eV,eW,eX,eY,eZ,aa,ab,ac,ae,af,ag,ah,ai,aj,ak,al,am,an,ao,ap,aq,ar,au,av,aw,ax,ay,az,aA,aB,aC,aD,aE,aF,aG,aH,aI,aJ,aK,aL,aM,aN],defers:=[] } W') :
  elem15n0.wp Tryz.prog (Exit.then K (λ_ _ _=>False)) { tmps:=#[s.val]++Array.replicate 98 undef,defers:=[] } W:=by
 unfold Ls.val;unfold Ls.cells at hK ⊢;obtain ⟨W1,x1,g1,b1,s1⟩:=Af W #[sv s.name,int i64 s.wd,int i64 s.dp,int i64 s.bars,int i64 s.t0,int i64 s.t1,.slice s.ra s.roles.length s.rc,.slice s.ta s.tempos.length s.tc,.slice s.ua s.pauses.length s.uc,.slice s.sa s.spans.length s.sc,.slice s.fa s.phrases.length s.fc,.slice s.da s.dances.length s.dc] 30;obtain ⟨W2,x2,g2,b2,s2⟩:=Af W1 CJ 30;obtain ⟨W3,x3,g3,b3,s3⟩:=Af W2 #[int i64 0] 40;unfold CJ at x2;have HF:=qh (hK W3 W.heap.size W1.heap.size W2.heap.size (b1.trans ((b2.trans (b3.mono (by omega))).mono (by omega))) (by omega) (by omega) (by omega) (((b2.trans (b3.mono (by omega))).block _ (by omega)).trans g1) ((b3.block _ (by omega)).trans g2) g3);clear hK g1 g2 g3 b1 b2 b3 s1 s2 s3;simp only [Array.replicate];unfold elem15n0 Am
 conv=>arg 2;whnf
 go_wp2_with fail;exact HF.out _ _ _ _ _ _ _ _ _ _ _ _ _ _ _ _ _ _ _ _ _ _ _ _ _ _ _ _ _ _ _ _ _ _ _ _ _ _ _ _ _ _ _ _ _ _ _ _ _ _ _ _ _ _ _ _ _ _ _ _ _ _ _ _ _ _ _ _ _ _ _ _ _ _ _ _ _ _ _ _ _ _ _ _ _ _ _ _ _ _ _ _ _ _ _ _
theorem Tz(B1 X E:Nat)(W:World)(K:Act→World→Prop)(hK:∀(e0 e4 e5 e6 e7 e8 e9 ea eb ec ed ee ef eg eh ei ej ek el em en eo ep eq er es et eu ev ew ex ey ez eA eB eC eD eE eF eG eH eI eJ eK eL eM eN eO eP eQ eR eS eT eU eV eW eX eY eZ aa ab ac ae af ag ah ai aj ak al am an ao ap aq ar au av aw ax ay az aA aB aC aD aE aF aG aH aI aJ aK aL aM aN:Value),K { tmps:=#[e0,.pointer (some ⟨B1,0,none⟩),.pointer (some ⟨X,0,none⟩),.pointer (some ⟨E,0,none⟩),e4,e5,e6,e7,e8,e9,ea,eb,ec,ed,ee,ef,eg,eh,ei,ej,ek,el,em,en,eo,ep,eq,er,es,et,eu,ev,ew,ex,ey,ez,eA,eB,eC,eD,eE,eF,eG,eH,eI,eJ,eK,eL,eM,eN,eO,eP,eQ,eR,eS,eT,eU,eV,eW,eX,eY,eZ,aa,ab,ac,ae,af,ag,ah,ai,aj,ak,al,am,an,ao,ap,aq,ar,au,av,aw,ax,ay,az,aA,aB,aC,aD,aE,aF,aG,aH,aI,aJ,aK,aL,aM,aN],defers:=[dfr X E] } W):
  elem15n1.wp Tryz.prog (Exit.then K (λ_ _ _=>False)) { tmps:=#[e0,.pointer (some ⟨B1,0,none⟩),.pointer (some ⟨X,0,none⟩),.pointer (some ⟨E,0,none⟩),e4,e5,e6,e7,e8,e9,ea,eb,ec,ed,ee,ef,eg,eh,ei,ej,ek,el,em,en,eo,ep,eq,er,es,et,eu,ev,ew,ex,ey,ez,eA,eB,eC,eD,eE,eF,eG,eH,eI,eJ,eK,eL,eM,eN,eO,eP,eQ,eR,eS,eT,eU,eV,eW,eX,eY,eZ,aa,ab,ac,ae,af,ag,ah,ai,aj,ak,al,am,an,ao,ap,aq,ar,au,av,aw,ax,ay,az,aA,aB,aC,aD,aE,aF,aG,aH,aI,aJ,aK,aL,aM,aN],defers:=[] } W:=by
 have HF:=qh hK;clear hK;dsimp only;unfold elem15n1 Am
 conv=>arg 2;whnf
 go_wp2_with fail;exact HF.out _ _ _ _ _ _ _ _ _ _ _ _ _ _ _ _ _ _ _ _ _ _ _ _ _ _ _ _ _ _ _ _ _ _ _ _ _ _ _ _ _ _ _ _ _ _ _ _ _ _ _ _ _ _ _ _ _ _ _ _ _ _ _ _ _ _ _ _ _ _ _ _ _ _ _ _ _ _ _ _ _ _ _ _ _ _ _ _ _ _ _ _ _ _ _ _
theorem TA(s:Ls)(ks:List Int)(B1 X E:Nat)(ds:List Deferred)(W:World)(hB:W.heap[B1]?=some (.cells s.cells 30 (0,0)))(hA:s.At W)(hN:NsAt W s.refs ks)(K:Act→World→Prop)(Q:Exit→Act→World→Prop)
  (hK:s.strip.lims=true→∀W',Below W.heap.size W W'→∀(e0 e4 e5 e6 e7 e8 e9 ea eb ec ed ee ef eg eh ei ej ek el em en eo ep eq er es et eu ev ew ex ey ez eA eB eC eD eE eF eG eH eI eJ eK eL eM eN eO eP eQ eR eS eT eU eV eW eX eY eZ aa ab ac ae af ag ah ai aj ak al am an ao ap aq ar au av aw ax ay az aA aB aC aD aE aF aG aH aI aJ aK aL aM aN:Value),K { tmps:=#[e0,.pointer (some ⟨B1,0,none⟩),.pointer (some ⟨X,0,none⟩),.pointer (some ⟨E,0,none⟩),e4,e5,e6,e7,e8,e9,ea,eb,ec,ed,ee,ef,eg,eh,ei,ej,ek,el,em,en,eo,ep,eq,er,es,et,eu,ev,ew,ex,ey,ez,eA,eB,eC,eD,eE,eF,eG,eH,eI,eJ,eK,eL,eM,eN,eO,eP,eQ,eR,eS,eT,eU,eV,eW,eX,eY,eZ,aa,ab,ac,ae,af,ag,ah,ai,aj,ak,al,am,an,ao,ap,aq,ar,au,av,aw,ax,ay,az,aA,aB,aC,aD,aE,aF,aG,aH,aI,aJ,aK,aL,aM,aN],defers:=ds } W')
  (hC:s.strip.lims=false→∀W',Below W.heap.size W W'→∀(e0 e4 e5 e6 e7 e8 e9 ea eb ec ed ee ef eg eh ei ej ek el em en eo ep eq er es et eu ev ew ex ey ez eA eB eC eD eE eF eG eH eI eJ eK eL eM eN eO eP eQ eR eS eT eU eV eW eX eY eZ aa ab ac ae af ag ah ai aj ak al am an ao ap aq ar au av aw ax ay az aA aB aC aD aE aF aG aH aI aJ aK aL aM aN:Value),Q (.panic (Aw 2)) { tmps:=#[e0,.pointer (some ⟨B1,0,none⟩),.pointer (some ⟨X,0,none⟩),.pointer (some ⟨E,0,none⟩),e4,e5,e6,e7,e8,e9,ea,eb,ec,ed,ee,ef,eg,eh,ei,ej,ek,el,em,en,eo,ep,eq,er,es,et,eu,ev,ew,ex,ey,ez,eA,eB,eC,eD,eE,eF,eG,eH,eI,eJ,eK,eL,eM,eN,eO,eP,eQ,eR,eS,eT,eU,eV,eW,eX,eY,eZ,aa,ab,ac,ae,af,ag,ah,ai,aj,ak,al,am,an,ao,ap,aq,ar,au,av,aw,ax,ay,az,aA,aB,aC,aD,aE,aF,aG,aH,aI,aJ,aK,aL,aM,aN],defers:=ds } W')
:
  elem15n2.wp Tryz.prog (Exit.then K Q) { tmps:=#[e0,.pointer (some ⟨B1,0,none⟩),.pointer (some ⟨X,0,none⟩),.pointer (some ⟨E,0,none⟩),e4,e5,e6,e7,e8,e9,ea,eb,ec,ed,ee,ef,eg,eh,ei,ej,ek,el,em,en,eo,ep,eq,er,es,et,eu,ev,ew,ex,ey,ez,eA,eB,eC,eD,eE,eF,eG,eH,eI,eJ,eK,eL,eM,eN,eO,eP,eQ,eR,eS,eT,eU,eV,eW,eX,eY,eZ,aa,ab,ac,ae,af,ag,ah,ai,aj,ak,al,am,an,ao,ap,aq,ar,au,av,aw,ax,ay,az,aA,aB,aC,aD,aE,aF,aG,aH,aI,aJ,aK,aL,aM,aN],defers:=ds } W:=by
 have C:=Rb s ks W hA hN;unfold Ls.val at C;unfold Ls.cells at hB C;have y0:=Aa hB 0 rfl;have y1:=Aa hB 1 rfl;have y2:=Aa hB 2 rfl;have y3:=Aa hB 3 rfl;have y4:=Aa hB 4 rfl;have y5:=Aa hB 5 rfl;have y6:=Aa hB 6 rfl;have y7:=Aa hB 7 rfl;have y8:=Aa hB 8 rfl;have y9:=Aa hB 9 rfl;have y10:=Aa hB 10 rfl;have y11:=Aa hB 11 rfl;have HK:=qh hK;have hD:=qh hC;have HC:=qh C;clear hK hC C hB hA hN;dsimp only;unfold elem15n2 Am
 conv=>arg 2;whnf
 go_wp2_with (go_at_call 119;refine HC.out.mono ?_;unfold St Ak;rintro e w' ⟨(⟨hl,rfl⟩|⟨hl,rfl⟩),hb⟩)
 ·exact HK.out hl _ hb _ _ _ _ _ _ _ _ _ _ _ _ _ _ _ _ _ _ _ _ _ _ _ _ _ _ _ _ _ _ _ _ _ _ _ _ _ _ _ _ _ _ _ _ _ _ _ _ _ _ _ _ _ _ _ _ _ _ _ _ _ _ _ _ _ _ _ _ _ _ _ _ _ _ _ _ _ _ _ _ _ _ _ _ _ _ _ _ _ _ _ _ _ _ _ _
 ·exact hD.out hl _ hb _ _ _ _ _ _ _ _ _ _ _ _ _ _ _ _ _ _ _ _ _ _ _ _ _ _ _ _ _ _ _ _ _ _ _ _ _ _ _ _ _ _ _ _ _ _ _ _ _ _ _ _ _ _ _ _ _ _ _ _ _ _ _ _ _ _ _ _ _ _ _ _ _ _ _ _ _ _ _ _ _ _ _ _ _ _ _ _ _ _ _ _ _ _ _ _
theorem TC(s:Ls)(B1 X E:Nat)(ds:List Deferred)(W:World)(hB:W.heap[B1]?=some (.cells s.cells 30 (0,0)))(he:Env W)(K:Act→World→Prop)(Q:Exit→Act→World→Prop)
  (hK:AG s.name=true→∀W',Below W.heap.size W W'→∀(e0 e4 e5 e6 e7 e8 e9 ea eb ec ed ee ef eg eh ei ej ek el em en eo ep eq er es et eu ev ew ex ey ez eA eB eC eD eE eF eG eH eI eJ eK eL eM eN eO eP eQ eR eS eT eU eV eW eX eY eZ aa ab ac ae af ag ah ai aj ak al am an ao ap aq ar au av aw ax ay az aA aB aC aD aE aF aG aH aI aJ aK aL aM aN:Value),K { tmps:=#[e0,.pointer (some ⟨B1,0,none⟩),.pointer (some ⟨X,0,none⟩),.pointer (some ⟨E,0,none⟩),e4,e5,e6,e7,e8,e9,ea,eb,ec,ed,ee,ef,eg,eh,ei,ej,ek,el,em,en,eo,ep,eq,er,es,et,eu,ev,ew,ex,ey,ez,eA,eB,eC,eD,eE,eF,eG,eH,eI,eJ,eK,eL,eM,eN,eO,eP,eQ,eR,eS,eT,eU,eV,eW,eX,eY,eZ,aa,ab,ac,ae,af,ag,ah,ai,aj,ak,al,am,an,ao,ap,aq,ar,au,av,aw,ax,ay,az,aA,aB,aC,aD,aE,aF,aG,aH,aI,aJ,aK,aL,aM,aN],defers:=ds } W')
  (hA:AG s.name=false→∀W',Below W.heap.size W W'→∀(e0 e4 e5 e6 e7 e8 e9 ea eb ec ed ee ef eg eh ei ej ek el em en eo ep eq er es et eu ev ew ex ey ez eA eB eC eD eE eF eG eH eI eJ eK eL eM eN eO eP eQ eR eS eT eU eV eW eX eY eZ aa ab ac ae af ag ah ai aj ak al am an ao ap aq ar au av aw ax ay az aA aB aC aD aE aF aG aH aI aJ aK aL aM aN:Value),Q (.panic (Aw 170)) { tmps:=#[e0,.pointer (some ⟨B1,0,none⟩),.pointer (some ⟨X,0,none⟩),.pointer (some ⟨E,0,none⟩),e4,e5,e6,e7,e8,e9,ea,eb,ec,ed,ee,ef,eg,eh,ei,ej,ek,el,em,en,eo,ep,eq,er,es,et,eu,ev,ew,ex,ey,ez,eA,eB,eC,eD,eE,eF,eG,eH,eI,eJ,eK,eL,eM,eN,eO,eP,eQ,eR,eS,eT,eU,eV,eW,eX,eY,eZ,aa,ab,ac,ae,af,ag,ah,ai,aj,ak,al,am,an,ao,ap,aq,ar,au,av,aw,ax,ay,az,aA,aB,aC,aD,aE,aF,aG,aH,aI,aJ,aK,aL,aM,aN],defers:=ds } W')
:
  elem15n3.wp Tryz.prog (Exit.then K Q) { tmps:=#[e0,.pointer (some ⟨B1,0,none⟩),.pointer (some ⟨X,0,none⟩),.pointer (some ⟨E,0,none⟩),e4,e5,e6,e7,e8,e9,ea,eb,ec,ed,ee,ef,eg,eh,ei,ej,ek,el,em,en,eo,ep,eq,er,es,et,eu,ev,ew,ex,ey,ez,eA,eB,eC,eD,eE,eF,eG,eH,eI,eJ,eK,eL,eM,eN,eO,eP,eQ,eR,eS,eT,eU,eV,eW,eX,eY,eZ,aa,ab,ac,ae,af,ag,ah,ai,aj,ak,al,am,an,ao,ap,aq,ar,au,av,aw,ax,ay,az,aA,aB,aC,aD,aE,aF,aG,aH,aI,aJ,aK,aL,aM,aN],defers:=ds } W:=by
 unfold Ls.cells at hB;have y0:=Aa hB 0 rfl;obtain ⟨W1,x1,g1,b1,s1⟩:=Af W #[sv s.name] 9
 have C:=Sh [s.name] (some ⟨W.heap.size,0,none⟩) 1 W1 (he.below b1) ⟨W.heap.size,0,rfl,by simp [maxLen],λi x hi=>by
  match i,hi with
  | 0,hi=>simp at hi;subst hi;exact Aa g1 0 rfl⟩
 have C2:Calls Tryz.prog 120 #[.slice (some ⟨W.heap.size,0,none⟩) 1 1,.func (.func 121) #[] #[]] W1 λe w'=>((AG s.name=true∧∃b,e=.returned (.map (some b)))∨(AG s.name=false∧e=Ak 170))∧Below W.heap.size W w':=by
  refine C.mono ?_;rintro e w' ⟨h,hb⟩;refine ⟨?_,b1.trans (hb.mono b1.size)⟩;rcases h with ⟨h1,b,_,h2,_⟩|⟨h1,h2⟩
  ·exact Or.inl ⟨by simpa using h1,b,h2⟩
  ·exact Or.inr ⟨by simpa using h1,h2⟩
 have HK:=qh hK;have hC:=qh hA;have HC:=qh C2;clear hK hA C C2 hB he g1 b1 s1;dsimp only;unfold elem15n3 Am
 conv=>arg 2;whnf
 go_wp2_with (go_at_call 120;refine HC.out.mono ?_;unfold Ak;rintro e w' ⟨(⟨hl,b,rfl⟩|⟨hl,rfl⟩),hb⟩)
 ·exact HK.out hl _ hb _ _ _ _ _ _ _ _ _ _ _ _ _ _ _ _ _ _ _ _ _ _ _ _ _ _ _ _ _ _ _ _ _ _ _ _ _ _ _ _ _ _ _ _ _ _ _ _ _ _ _ _ _ _ _ _ _ _ _ _ _ _ _ _ _ _ _ _ _ _ _ _ _ _ _ _ _ _ _ _ _ _ _ _ _ _ _ _ _ _ _ _ _ _ _ _
 ·exact hC.out hl _ hb _ _ _ _ _ _ _ _ _ _ _ _ _ _ _ _ _ _ _ _ _ _ _ _ _ _ _ _ _ _ _ _ _ _ _ _ _ _ _ _ _ _ _ _ _ _ _ _ _ _ _ _ _ _ _ _ _ _ _ _ _ _ _ _ _ _ _ _ _ _ _ _ _ _ _ _ _ _ _ _ _ _ _ _ _ _ _ _ _ _ _ _ _ _ _ _
theorem RJ(s:Ls)(ns:List Int)(w:World)(hA:s.At w)(hN:NsAt w s.refs ns)(he:Env w):Calls Tryz.prog 89 #[s.val] w (Lr s ns w):=by
 refine EE Tryz.func89 (c:=Am) rfl ?_;have fit1:∀c:Int,Db s.strip ns=c→c≠0→∀(B1 X E:Nat) (W:World) (v:Value) (t:Array Value) (xs:Array Value),t.getD 2 undef=.pointer (some ⟨X,0,none⟩)→t.getD 3 undef=.pointer (some ⟨E,0,none⟩)→W.heap[X]?=some (.cells xs 30 (0,0))→xs.size=12→W.heap[E]?=some (.cells #[v] 40 (0,0))→w.heap.size≤X→w.heap.size≤E→Below w.heap.size w W →
   bodyPostM Fence.wide 0 Tryz.prog Tryz.f89 (Lr s ns w) (.panic (Aw c)) { tmps:=t,defers:=[dfr X E] } W:=by
  intro c hc h0 B1 X E W v t xs h2 h3 hX hs hE gX gE hb
  refine FI t X E c v xs _ W h2 h3 hX hs hE (λe=>by rw [e,hE] at hX;simp at hX) λW' hB=>⟨Or.inr ?_,hb.trans (hB _ gX gE)⟩
  rw [hc];exact ⟨h0,rfl⟩
 rw [US];refine AH (λK hK=>?_);refine wp_mono (Ty s w K ?_) C3;intro W0 B1 X E hH gX gE hO hB hX hE
 intros
 refine hK _ _ ?_;rw [UT];refine AH (λK hK=>?_);refine wp_mono (Tz B1 X E W0 K ?_) C3
 intros
 refine hK _ _ ?_;rw [UU];refine AH (λK hK=>?_);refine TA s ns B1 X E _ W0 hB (hA.below hH) (hN.below hH) K _ ?_ ?_
 ·intro hD W2 hI
  intros
  refine hK _ _ ?_;have o2:∀{b:Nat} {o:Obj},W0.heap[b]?=some o→W2.heap[b]?=some o:=λh=>(hI.block _ (qs.1 h).1).trans h
  have hG:=hH.trans (hI.mono hH.size);rw [UV];refine AH (λK hK=>?_);refine TC s B1 X E _ W2 (o2 hB) (he.below hG) K _ ?_ ?_
  ·intro hL W3 hJ
   intros
   refine hK _ _ ?_;have o3:∀{b:Nat} {o:Obj},W2.heap[b]?=some o→W3.heap[b]?=some o:=λh=>(hJ.block _ (qs.1 h).1).trans h
   have hF:=hG.trans (hJ.mono hG.size);rw [UW];refine AH (λK hK=>?_);refine wp_mono (TD s B1 X E _ W3 (o3 (o2 hB)) (hA.below hF) (he.below hF) K ?_) ?_
   ·intro MT mR mP TB W4 hM gT okR okP hT hP hQ hR
    intros
    refine hK _ _ ?_;have o4:∀{b:Nat} {o:Obj},W3.heap[b]?=some o→W4.heap[b]?=some o:=λh=>(hM.block _ (qs.1 h).1).trans h
    have hC:s.strip.named=true:=by
     unfold Sc.named;rw [C1,C0,okR,okP]
     show (AG s.name&&(true&&true))=true
     rw [hL];rfl
    exact O4 s ns w hA hN hD hC B1 X E TB MT mR mP W4 ⟨o4 (o3 (o2 hB)),o4 (o3 (o2 hX)),o4 (o3 (o2 hE)),hT,hP,hQ,hR,hF.trans (hM.mono hF.size),⟨gX,gE,Nat.le_trans hF.size gT⟩,hO⟩
   ·intro e a W h
    cases e with
    | normal=>exact h
    | panic c =>
     obtain ⟨h1,h2,h3,h4,h5,h6⟩:=h;cases h1;obtain ⟨t,d⟩:=a;dsimp only at h4 h2 h3;subst h4;have o5:∀{b:Nat} {o:Obj},W3.heap[b]?=some o→W.heap[b]?=some o:=λh=>(h5.block _ (qs.1 h).1).trans h
     refine fit1 170 ?_ (by decide) B1 X E W _ t _ h2 h3 (o5 (o3 (o2 hX))) rfl (o5 (o3 (o2 hE))) gX gE (hF.trans (h5.mono hF.size))
     have hC:s.strip.named=false:=by
      unfold Sc.named;rw [C1,C0];rcases h6 with h|h<;>rw [h]<;>simp
     unfold Db;rw [hD,hC];rfl
    | ret=>exact absurd h.1 (by simp)
    | outgrown=>exact absurd h.1 (by simp)
    | exit _=>exact absurd h.1 (by simp)
    | goto _=>exact absurd h.1 (by simp)
  ·intro hL W3 hJ
   intros
   have o3:∀{b:Nat} {o:Obj},W2.heap[b]?=some o→W3.heap[b]?=some o:=λh=>(hJ.block _ (qs.1 h).1).trans h
   refine fit1 170 ?_ (by decide) B1 X E W3 _ _ _ rfl rfl (o3 (o2 hX)) rfl (o3 (o2 hE)) gX gE (hG.trans (hJ.mono hG.size))
   have hC:s.strip.named=false:=by
    unfold Sc.named
    show (AG s.name&&_)=false
    rw [hL];rfl
   unfold Db;rw [hD,hC];rfl
 ·intro hD W2 hI
  intros
  have o2:∀{b:Nat} {o:Obj},W0.heap[b]?=some o→W2.heap[b]?=some o:=λh=>(hI.block _ (qs.1 h).1).trans h
  refine fit1 2 ?_ (by decide) B1 X E W2 _ _ _ rfl rfl (o2 hX) rfl (o2 hE) gX gE (hH.trans (hI.mono hH.size));unfold Db;rw [hD];rfl
end
section
open Go Go.RowKit Go.Shelf Go.Deep
theorem Pm:∃i,Tryz.prog.info? 3=some i∧i.zero=some (int i64 0)∧i.size=1∧i.bytes=8:=by
 have h1:(Tryz.prog.info? 3).map (·.zero)=some (some (int i64 0)):=by kernel_rfl
 have h2:(Tryz.prog.info? 3).map (·.size)=some 1:=by kernel_rfl
 have h3:(Tryz.prog.info? 3).map (·.bytes)=some 8:=by kernel_rfl
 obtain ⟨i,hi⟩:∃i,Tryz.prog.info? 3=some i:=by
  cases h:Tryz.prog.info? 3 with
  | none=>rw [h] at h1;cases h1
  | some i=>exact ⟨i,rfl⟩
 rw [hi] at h1 h2 h3;simp only [Option.map_some,Option.some.injEq] at h1 h2 h3;exact ⟨i,hi,h1,h2,h3⟩
noncomputable def AJ:Code:=(Tryz.f54.body).getD .skip
noncomputable def body16a:Code:=match Ab 4 AJ with
 | .seq (.seq _ (.block _ (.rangeFunc _ _ _ b))) _=>b
 | _=>.skip
def GX(ns:List Int):List Value:=ns.map λn=>int i64 n
structure Chk1(TB:Nat)(W1:World)(ns:List Int)(pre:List RefL)(W:World):Prop where
 but:ButOne TB W1 W
 row:∃ao c,W.heap[TB]?=some (.cells #[.slice ao pre.length c] 116 (0,0))∧W.ownsRow W1.heap.size 3 1 (.slice ao pre.length c) pre.length (GX (ns.take pre.length))
theorem ButOne.grown{R:Nat}{A B C:World}{row:Option Nat}(h:ButOne R A B)(hg:B.grownBy C row)(hr:∀k,row=some k→A.heap.size≤k):ButOne R A C :=
 ⟨hg.os.trans h.os,hg.tape.trans h.tape,hg.output.trans h.output,Nat.le_trans h.size hg.size,λb hb hR=>(hg.block b (Nat.lt_of_lt_of_le hb h.size) (λe=>by have:=hr b e.symm;omega)).trans (h.block b hb hR)⟩
theorem AS{W:World}{B e k n:Nat}{v:Value}{xs:List Value}(h:W.ownsRow B e k v n xs):∃ao c,v=.slice ao n c:=by
 rcases h.2 with ⟨rfl,rfl⟩|⟨g,c,_,rfl,_⟩
 ·exact ⟨_,_,rfl⟩
 ·exact ⟨_,_,rfl⟩
theorem BE{W:World}{B k n:Nat}{v:Value}{xs:List Value}(h:W.ownsRow B 3 k v n xs){b:Nat}(hb:v.ownBlock=some b):RowInt W b∧B≤b:=by
 rcases h.2 with ⟨rfl,_⟩|⟨g,c,cur,rfl,h1,h2,_⟩
 ·cases hb
 ·cases hb;exact ⟨⟨cur,_,h2⟩,h1⟩
theorem Gq(W:World)(p:Addr)(v:Value):W.grownBy (W.setCell p v) (some p.block) :=
 ⟨rfl,rfl,rfl,by simp [World.setCell],λk _ hr=>Below.heap_setCell _ _ _ _ (λe=>hr (by rw [e]))⟩
theorem Chk1.step{TB:Nat}{W1:World}{ns n1 js:List Int}{n:Int}{pre:List RefL}{r:RefL}{W W2:World}{v':Value}{ao:Option Addr}{c:Nat}(h:Chk1 TB W1 ns pre W)(hI:TB<W1.heap.size)
  (ht:W.heap[TB]?=some (.cells #[.slice ao pre.length c] 116 (0,0))) (hA:W.ownsRow W1.heap.size 3 1 (.slice ao pre.length c) pre.length (GX (ns.take pre.length))) (hC:ns=n1++n::js) (hl:n1.length=pre.length)
  (ho:W2.ownsRow W1.heap.size 3 1 v' (pre.length+1) (GX (ns.take pre.length)++[int i64 n])) (hg:(W.drew.alloc (.cells #[int i64 n] 3)).grownBy W2 (Value.slice ao pre.length c).ownBlock) :
  Beyond W1.heap.size W (W2.setCell ⟨TB,0,none⟩ v')∧Chk1 TB W1 ns (pre++[r]) (W2.setCell ⟨TB,0,none⟩ v'):=by
 have hJ:(W.drew.alloc (.cells #[int i64 n] 3)).heap.size=W.heap.size+1:=by simp
 have hK:=hg.size;have hD:=(qs.1 ht).1;have hE:some TB≠(Value.slice ao pre.length c).ownBlock:=λe=>by have:=(BE hA e.symm).2;omega
 have hF:W2.heap[TB]?=some (.cells #[.slice ao pre.length c] 116 (0,0)):=(hg.block TB (by omega) hE).trans ((Below.heap_alloc _ _ _ (by show TB<W.drew.heap.size;exact hD)).trans ht);obtain ⟨W3,x3,g3,o3,b3,s3⟩:=Bp hF v';rw [x3];have hG:ButOne TB W1 (W.drew.alloc (.cells #[int i64 n] 3)):=h.but.trans (ButOne.of_below ((Below.refl W.heap.size W).drew.alloc (qn _) _));have hH:ButOne TB W1 W2:=hG.grown hg (λk e=>(BE hA e).2);obtain ⟨ao',c',rfl⟩:=AS ho
 have hB:W3.ownsRow W1.heap.size 3 1 (.slice ao' (pre.length+1) c') (pre.length+1) (GX (ns.take pre.length)++[int i64 n]):=by
  rw [← x3];exact ho.kept (Gq W2 ⟨TB,0,none⟩ _) (Or.inr λe=>by have:=(BE ho e).2;simp only at this;omega)
 refine ⟨⟨by omega,λb h1 h2 h3=>?_⟩,by rw [← x3];exact hH.trans (ButOne.setCell (p:=⟨TB,0,none⟩) _),ao',c',by simpa using g3,?_⟩
 ·rw [o3 b (by omega),hg.block b (by omega) (λe=>h3 (BE hA e.symm).1)]
  exact Below.heap_alloc _ _ _ h2
 ·have e:ns.take (pre++[r]).length=ns.take pre.length++[n]:=by
   rw [hC,List.length_append,← hl];simp [List.take_append,List.take_succ_cons,List.take_of_length_le (show n1.length≤n1.length+1 by omega)]
  rw [e];unfold GX at hB ⊢;rw [List.map_append];simpa using hB
theorem Nb(l:Nat)(B1 E X TB:Nat)(W1:World)(ns:List Int)(rs:List RefL)(hN:NsAt W1 rs ns)(ha:∀r∈rs,r.b≠TB)(hc:TB<W1.heap.size)(hH:rs.length≤1000000)
  (pre rest:List RefL) (r:RefL) (W:World) (hs:rs=pre++r::rest) (hI:Chk1 TB W1 ns pre W):
  body16a.wpIn (Fence.wide.inRound l) 10 Tryz.prog (BW W1.heap.size (Chk1 TB W1 ns) (λ_=>False) (λ_=>False) (Aw 170) (pre++[r]) W) { tmps:=#[e0,.pointer (some ⟨B1,0,none⟩),.pointer (some ⟨E,0,none⟩),.pointer (some ⟨X,0,none⟩),.pointer (some ⟨TB,0,none⟩),.pointer (some ⟨r.b,r.o,none⟩),e6,e7,e8,e9,ea,eb,ec,ed,ee,ef,eg,eh,ei,ej,ek,el,em,en,eo,ep,eq,er,es,et,eu,ev,ew,ex,ey,ez,eA,eB],defers:=[] } W:=by
 obtain ⟨ao,c,ht,hC⟩:=hI.row;subst hs;obtain ⟨n1,n2,rfl,k1,k2⟩:=NsAt.split (xs:=pre) hN
 obtain ⟨n,js,rfl⟩:∃n js,n2=n::js:=by
  cases n2 with
  | nil=>exact k2.elim
  | cons n js=>exact ⟨n,js,rfl⟩
 have hl:=k1.len;have hM:r.b≠TB:=ha r (by simp);have hd:W.cell? ⟨r.b,r.o+1,none⟩=some (int i64 n):=hI.but.cell k2.1 hM;have he:W.cell? ⟨TB,0,none⟩=some (.slice ao pre.length c):=Aa ht 0 rfl;have hm:pre.length≤1000000:=by simp at hH;omega
 have hD:=λv' W2 ho hg=>Chk1.step (r:=r) (v':=v') (W2:=W2) hI hc ht hC rfl hl ho hg
 have hO:some TB≠(Value.slice ao pre.length c).ownBlock:=λe=>by have:=(BE hC e.symm).2;omega
 have hQ:=(qs.1 ht).1;have hn:=hI.but.size;have mixed:Tryz.prog.follows .mixedOrders=true:=by kernel_rfl
 obtain ⟨i3,hR,hT,hU,hV⟩:=Pm;have hW:=qh hD;have HT:=qh ht;have hX:∀V,ButOne TB W1 V→V.cell? ⟨r.b,r.o+1,none⟩=some (int i64 n):=λV hb=>hb.cell k2.1 hM
 have hE:=qh hX;have hf:=qh hI.but;generalize hh:GX ((n1++n::js).take pre.length)=xs at *;generalize hP:Exit.inBlock 1 (BW W1.heap.size (Chk1 TB W1 (n1++n::js)) (λ_=>False) (λ_=>False) (Aw 170) (pre++[r]) W)=PQ;have hY:∀(a:Act) (W':World),(Beyond W1.heap.size W W'∧Chk1 TB W1 (n1++n::js) (pre++[r]) W')→PQ .normal a W':=λa W' h=>by rw [← hP];exact h
 have hi:¬LetsOut PQ:=by rw [← hP];exact λ⟨_,_,h⟩=>h
 have hG:∀(ch:List PanicEntry) (a:Act) (d:Option Go.Tmp) (v:Value) (W':World),PQ (.panic ch) (a.put d v) W'→PQ (.panic ch) a W':=λch a d v W' h=>by rw [← hP] at h ⊢;cases d<;>exact h
 generalize pre.length=m at *;have hZ:=qh hY;clear hY hN hI k1 k2 hD ht hh hX;dsimp only;unfold body16a AJ
 conv=>arg 4;whnf
 refine wpIn_block ?_;rw [hP];clear hP;refine Dv (S:=λV=>V.cell? ⟨r.b,r.o+1,none⟩=some (int i64 n)) mixed (by kernel_rfl) hi ?_;change wpAnyH _ _ _ _ _ _ _ _ W.drew;have hS:W.drew.cell? ⟨r.b,r.o+1,none⟩=some (int i64 n):=hd;refine tq 1 _ (.pointer (some ⟨r.b,r.o,none⟩)) rfl (by kernel_rfl) (λ_ _ _ h=>hG _ _ _ _ _ h) (Or.inl ⟨by kernel_rfl,λw hw=>by go_simp⟩) hS ?_
 try simp only [Act.put,qz]
 refine tq 2 _ (.pointer (some ⟨r.b,r.o,none⟩)) rfl (by kernel_rfl) (λ_ _ _ h=>hG _ _ _ _ _ h) (Or.inl ⟨by kernel_rfl,λw hw=>by go_simp⟩) hS ?_
 try simp only [Act.put,qz]
 refine tq 3 _ (.pointer (some ⟨r.b,r.o+1,none⟩)) rfl (by kernel_rfl) (λ_ _ _ h=>hG _ _ _ _ _ h) (Or.inl ⟨by kernel_rfl,λw hw=>by go_simp⟩) hS ?_
 try simp only [Act.put,qz]
 refine tq 4 _ (int i64 n) rfl (by kernel_rfl) (λ_ _ _ h=>hG _ _ _ _ _ h) (Or.inl ⟨by kernel_rfl,λw hw=>by go_simp⟩) hS ?_
 try simp only [Act.put,qz]
 have bA:ButOne TB W1 (W.drew.alloc (.cells #[int i64 n] 3)):=hf.out.trans (ButOne.of_below ((Below.refl W.heap.size W).drew.alloc (qn _) _));have cTA:(W.drew.alloc (.cells #[int i64 n] 3)).cell? ⟨TB,0,none⟩=some (.slice ao m c):=Ad ((Below.refl W.drew.heap.size W.drew).alloc (qn _) _) he;have hJ:=hE.out _ bA;refine wpAnyH_ready (rs:=[0,5]) (by kernel_rfl) (by simp) ?_;refine AllReadyH.cons (o:=_) rfl (λK1 hK=>?_) (AllReadyH.cons (o:=_) rfl (λK1 hK=>?_) AllReadyH.nil)
 ·have HK:=qh hK
  clear hK;go_simp;refine HK.out _ _ hS (λ_=>?_)
  try simp only [Act.put,qz]
  clear HK K1;refine tr 5 _ (by kernel_rfl) rfl λK1 hK=>?_
  have HK:=qh hK;clear hK;go_simp;refine HK.out _ _ hJ (λ_=>?_)
  try simp only [Act.put,qz]
  clear HK K1;refine tr 6 _ (by kernel_rfl) rfl λK1 hK=>?_
  rw [if_pos (by kernel_rfl)];have hA:(W.drew.alloc (.cells #[int i64 n] 3)).ownsRow W1.heap.size 3 1 (.slice ao m c) m xs:=World.ownsRow.alloc (w:=W.drew) hC _;refine wp_append_own _ _ _ 116 rfl W1.heap.size 3 i3 (int i64 0) 1 8 Tryz.underlying116 hR hT hU hV rfl (by decide) (.slice ao m c) m xs rfl hA ⟨W.drew.heap.size,0,none⟩ 1 1 [int i64 n] rfl rfl (cell_one_new _ _ _) (by intro u hu;simp at hu;subst hu;rfl) (by simp only [maxLen];omega) (by omega) (by simp;omega) ?_;intro v' W2 ho hg _;have hF:W2.heap[TB]?=some (.cells #[.slice ao m c] 116 (0,0)):=(hg.block TB (by simp;omega) hO).trans ((Below.heap_alloc _ _ _ (by show TB<W.drew.heap.size;exact hQ)).trans HT.out);have hL:ButOne TB W1 W2:=bA.grown hg (λk e=>(BE hA e).2);have hB:=hW.out v' W2 ho hg;have hj:W2.frozen? ⟨TB,0,none⟩=false:=(show FreeB W2 TB from ⟨_,_,hF⟩).free 0;have hk:W2.cell? ⟨TB,0,none⟩=some (.slice ao m c):=Aa hF 0 rfl;obtain ⟨ao',c',rfl⟩:=AS ho;refine hK _ _ (hE.out _ hL) (λ_=>?_);clear hK K1
  try simp only [Act.put,qz]
  refine tr 7 _ (by kernel_rfl) rfl λK1 hK=>?_
  have HK:=qh hK;clear hK;go_simp;refine HK.out _ _ (hE.out _ hB.2.but) (λ_=>?_);refine wpAnyH_done (by kernel_rfl) ?_ _;exact hZ.out _ _ hB
 ·have HK:=qh hK
  clear hK;go_simp;refine HK.out _ _ hJ (λ_=>?_)
  try simp only [Act.put,qz]
  clear HK K1;refine tr 0 _ (by kernel_rfl) rfl λK1 hK=>?_
  have HK:=qh hK;clear hK;go_simp;refine HK.out _ _ hJ (λ_=>?_)
  try simp only [Act.put,qz]
  clear HK K1;refine tr 6 _ (by kernel_rfl) rfl λK1 hK=>?_
  rw [if_pos (by kernel_rfl)];have hA:(W.drew.alloc (.cells #[int i64 n] 3)).ownsRow W1.heap.size 3 1 (.slice ao m c) m xs:=World.ownsRow.alloc (w:=W.drew) hC _;refine wp_append_own _ _ _ 116 rfl W1.heap.size 3 i3 (int i64 0) 1 8 Tryz.underlying116 hR hT hU hV rfl (by decide) (.slice ao m c) m xs rfl hA ⟨W.drew.heap.size,0,none⟩ 1 1 [int i64 n] rfl rfl (cell_one_new _ _ _) (by intro u hu;simp at hu;subst hu;rfl) (by simp only [maxLen];omega) (by omega) (by simp;omega) ?_;intro v' W2 ho hg _;have hF:W2.heap[TB]?=some (.cells #[.slice ao m c] 116 (0,0)):=(hg.block TB (by simp;omega) hO).trans ((Below.heap_alloc _ _ _ (by show TB<W.drew.heap.size;exact hQ)).trans HT.out);have hL:ButOne TB W1 W2:=bA.grown hg (λk e=>(BE hA e).2);have hB:=hW.out v' W2 ho hg;have hj:W2.frozen? ⟨TB,0,none⟩=false:=(show FreeB W2 TB from ⟨_,_,hF⟩).free 0;have hk:W2.cell? ⟨TB,0,none⟩=some (.slice ao m c):=Aa hF 0 rfl;obtain ⟨ao',c',rfl⟩:=AS ho;refine hK _ _ (hE.out _ hL) (λ_=>?_);clear hK K1
  try simp only [Act.put,qz]
  refine tr 7 _ (by kernel_rfl) rfl λK1 hK=>?_
  have HK:=qh hK;clear hK;go_simp;refine HK.out _ _ (hE.out _ hB.2.but) (λ_=>?_);refine wpAnyH_done (by kernel_rfl) ?_ _;exact hZ.out _ _ hB
end
section
open Go Go.RowKit Go.Shelf
noncomputable def body16b:Code:=match Ab 5 AJ with
 | .seq (.seq _ (.block _ (.rangeFunc _ _ _ b))) _=>b
 | _=>.skip
theorem T9:Tryz.prog.underlying 116=some (.slice (Tryz.prog.elem 116)):=by kernel_rfl
theorem Ok(aC:Option Addr)(n cC:Nat)(hn:1≤n)(hc:n≤cC):∃ao':Option Addr,(0<n-1→∀b o,aC=some ⟨b,o,none⟩→ao'=some ⟨b,o+1,none⟩)∧∀W,(Instr.slice 116 (.slice aC n cC) (some (int i64 1)) none none).run Tryz.prog W=.ok (.slice ao' (n-1) (cC-1)) W:=by
 have hA:∀W,(sizeOf (Tryz.prog.elem 116)).run Tryz.prog W=.ok 1 W:=by
  intro W;have h1:Tryz.prog.elem 116=3:=by kernel_rfl
  obtain ⟨i3,hB,hD,hC,hE⟩:=Pm;rw [h1];simp [sizeOf,typeInfo,hB,hC]
 refine ⟨if cC=1 then aC else aC.map (·.add (1*1)),λh1 b o h3=>?_,λW=>?_⟩
 ·rw [if_neg (by omega),h3]
  simp [Bc]
 ·rw [run_slice_l W 116 aC n cC T9 .i64 1 (by omega) (by omega),hA]
  simp only [Result.andThen,sliced]
  rfl
structure Chk2(TB:Nat)(W1:World)(g m:Nat)(ks ns:List Int)(pre:List RefL)(W:World):Prop where
 but:ButOne TB W1 W
 row:∃ao c,W.heap[TB]?=some (.cells #[.slice ao (m-pre.length) c] 116 (0,0))∧(0<m-pre.length→ao=some ⟨g,pre.length,none⟩)∧m-pre.length≤c
 same:ks.take pre.length=ns.take pre.length
structure Chk2X(TB E:Nat)(w0 W1:World)(ks ns:List Int)(W:World):Prop where
 size:W1.heap.size≤W.heap.size
 rest:∀b,b<W1.heap.size→b≠TB→b≠E→W.heap[b]?=W1.heap[b]?
 err:W.heap[E]?=some (.cells #[int i64 170] 40 (0,0))
 base:Below w0.heap.size w0 W
 ne:ks≠ns
theorem Jj{l:List Int}{i:Nat}{x:Int}(h:l[i]?=some x):l.take (i+1)=l.take i++[x]:=by
 rw [List.take_add_one,h];rfl
section
attribute [local go_sem] Oper.semAt_some
theorem Nc(l:Nat)(B1 E X TB g:Nat)(w0 W1:World)(ks ns:List Int)(rs:List RefL)(hN:NsAt W1 rs ks)(hL:∀r∈rs,r.b≠TB)(hF:w0.heap.size≤TB∧w0.heap.size≤E)(hU:TB<W1.heap.size∧E<W1.heap.size)(hX:E≠TB)(hY:g≠TB)
  (hE:W1.heap[E]?=some (.cells #[int i64 0] 40 (0,0))) (hV:ns.length=rs.length) (hG:∀(i:Nat) (n:Int),ns[i]?=some n→W1.cell? ⟨g,i,none⟩=some (int i64 n)) (hH:Below w0.heap.size w0 W1)
  (pre rest:List RefL) (r:RefL) (W:World) (hs:rs=pre++r::rest) (hI:Chk2 TB W1 g rs.length ks ns pre W):
  body16b.wpIn (Fence.wide.inRound l) 10 Tryz.prog (BW W1.heap.size (Chk2 TB W1 g rs.length ks ns) (Chk2X TB E w0 W1 ks ns) (λ_=>False) (Aw 170) (pre++[r]) W) { tmps:=#[e0,.pointer (some ⟨B1,0,none⟩),.pointer (some ⟨E,0,none⟩),.pointer (some ⟨X,0,none⟩),.pointer (some ⟨TB,0,none⟩),e5,.pointer (some ⟨r.b,r.o,none⟩),e7,e8,e9,ea,eb,ec,ed,ee,ef,eg,eh,ei,ej,ek,el,em,en,eo,ep,eq,er,es,et,eu,ev,ew,ex,ey,ez,eA,eB],defers:=[] } W:=by
 obtain ⟨ao,c,ht,hM,hc⟩:=hI.row;have hW:rs.length=pre.length+(rest.length+1):=by rw [hs];simp
 obtain ⟨k1,k2,hO,q1,q2⟩:=NsAt.split (xs:=pre) (hs▸hN)
 obtain ⟨k,js,rfl⟩:∃k js,k2=k::js:=by
  cases k2 with
  | nil=>exact q2.elim
  | cons k js=>exact ⟨k,js,rfl⟩
 have hP:=q1.len;have hA:ks[pre.length]?=some k:=by rw [hO,← hP];simp
 obtain ⟨n,hB⟩:∃n,ns[pre.length]?=some n:=⟨_,qg (by omega)⟩;have hQ:=hM (by omega);subst hQ;have hr:r∈rs:=by rw [hs];simp
 have d1:W.cell? ⟨r.b,r.o+1,none⟩=some (int i64 k):=hI.but.cell q2.1 (hL r hr);have d2:W.cell? ⟨g,pre.length,none⟩=some (int i64 n):=hI.but.cell (hG _ _ hB) hY;have d3:W.cell? ⟨TB,0,none⟩=some (.slice (some ⟨g,pre.length,none⟩) (rs.length-pre.length) c):=Aa ht 0 rfl;have fT:W.frozen? ⟨TB,0,none⟩=false:=(show FreeB W TB from ⟨_,_,ht⟩).free 0;have hC:W.heap[E]?=some (.cells #[int i64 0] 40 (0,0)):=hI.but.blocks hE hX;have fE:W.frozen? ⟨E,0,none⟩=false:=(show FreeB W E from ⟨_,_,hC⟩).free 0;have dE:W.cell? ⟨E,0,none⟩=some (int i64 0):=Aa hC 0 rfl;have mixed:Tryz.prog.follows .mixedOrders=true:=by kernel_rfl
 have hZ:1≤rs.length-pre.length:=by omega
 obtain ⟨ao2,hR,ha⟩:=Ok (some ⟨g,pre.length,none⟩) (rs.length-pre.length) c hZ hc;have hS:=λh=>hR h _ _ rfl
 have hb:0<rs.length-pre.length:=by omega
 have hd:(0:Int)<((rs.length-pre.length:Nat):Int):=by omega
 by_cases hJ:k=n
 ·subst hJ
  have hp:∀q,BW W1.heap.size (Chk2 TB W1 g rs.length ks ns) (Chk2X TB E w0 W1 ks ns) (λ_=>False) (Aw 170) (pre++[r]) W .normal { tmps:=#[],defers:=[] } ((W.drewN q).setCell ⟨TB,0,none⟩ (.slice ao2 (rs.length-pre.length-1) (c-1))):=λq=>by
   obtain ⟨W3,x3,g3,o3,b3,s3⟩:=Bp (w:=W.drewN q) ht (.slice ao2 (rs.length-pre.length-1) (c-1));rw [x3];have hK:(pre++[r]).length=pre.length+1:=by simp
   refine ⟨⟨by rw [s3];exact qn _,λb h1 h2 _=>o3 b (by omega)⟩,⟨?_,⟨ao2,c-1,?_,?_,?_⟩,?_⟩⟩
   ·rw [← x3]
    exact (hI.but.trans (ButOne.of_below (Aj (Below.refl _ _) _))).trans (ButOne.setCell (W:=W.drewN q) (p:=⟨TB,0,none⟩) _)
   ·rw [hK,← Nat.sub_sub];exact g3
   ·rw [hK,← Nat.sub_sub];exact hS
   ·rw [hK];omega
   ·rw [hK,Jj hA,Jj hB,hI.same]
  have hD:∀(a:Act) q,BW W1.heap.size (Chk2 TB W1 g rs.length ks ns) (Chk2X TB E w0 W1 ks ns) (λ_=>False) (Aw 170) (pre++[r]) W .normal a ((W.drewN q).setCell ⟨TB,0,none⟩ (.slice ao2 (rs.length-pre.length-1) (c-1))):=λa q=>hp q
  have HP:=qh hD;generalize hT:BW W1.heap.size (Chk2 TB W1 g rs.length ks ns) (Chk2X TB E w0 W1 ks ns) (λ_=>False) (Aw 170) (pre++[r]) W=PQ at *;generalize rs.length-pre.length=mm at *;generalize pre.length=pl at *;clear hp hD ht hM hW hO q1 q2 hP hA hB hI hE hC hG hN hL hR hS hs hF hU hV hH fE dE hr hT;dsimp only;unfold body16b AJ
  conv=>arg 4;whnf
  gi_wp2_with fail;refine Da mixed (by kernel_rfl) (by kernel_rfl) ?_
  repeat (quiet_step_in (fail))
  refine wpQuietIn_nil ?_;rintro W2 ⟨nq,rfl⟩;gi_wp2_with fail;exact HP.out _ _
 ·have hp:∀q,BW W1.heap.size (Chk2 TB W1 g rs.length ks ns) (Chk2X TB E w0 W1 ks ns) (λ_=>False) (Aw 170) (pre++[r]) W .ret { tmps:=#[],defers:=[] } ((W.drewN q).setCell ⟨E,0,none⟩ (int i64 170)):=λq=>by
   obtain ⟨W3,x3,g3,o3,b3,s3⟩:=Bp (w:=W.drewN q) hC (int i64 170);rw [x3];refine ⟨⟨by rw [s3];exact qn _,λb h1 h2 _=>o3 b (by omega)⟩,by rw [s3];exact hI.but.size,λb h1 h2 h3=>(o3 b h3).trans (hI.but.block b h1 h2),g3,b3 _ _ (hH.trans ((hI.but.below (B:=w0.heap.size) hF.1 hH.size).trans (Aj (Below.refl _ _) _))) hF.2,λe=>hJ ?_⟩;rw [e,hB] at hA;injection hA with h;exact h.symm
  have hD:∀(a:Act) q,BW W1.heap.size (Chk2 TB W1 g rs.length ks ns) (Chk2X TB E w0 W1 ks ns) (λ_=>False) (Aw 170) (pre++[r]) W .ret a ((W.drewN q).setCell ⟨E,0,none⟩ (int i64 170)):=λa q=>hp q
  have HP:=qh hD;have hf:(k==n)=false:=by simpa using hJ
  have he:(k != n)=true:=by simpa using hJ
  generalize hT:BW W1.heap.size (Chk2 TB W1 g rs.length ks ns) (Chk2X TB E w0 W1 ks ns) (λ_=>False) (Aw 170) (pre++[r]) W=PQ at *;generalize rs.length-pre.length=mm at *;generalize pre.length=pl at *;clear hp hD ht hM hW hO q1 q2 hP hA hB hI hE hC hG hN hL hR hS hs hF hU hV hH hr hT fT ha;dsimp only;unfold body16b AJ
  conv=>arg 4;whnf
  gi_wp2_with fail;refine Da mixed (by kernel_rfl) (by kernel_rfl) ?_
  repeat (quiet_step_in (fail))
  refine wpQuietIn_nil ?_;rintro W2 ⟨nq,rfl⟩;gi_wp2_with fail;exact HP.out _ _
end
end
section
open Go Go.RowKit Go.Shelf
theorem EO:∀(T:Lt) (d:Nat) (left l:Int) (b o:Nat),0≤left→T.strip.count d left=some l→0≤l∧((T.refsL b o).length:Int)≤65*(T.len+(left-l))
 | .nil,d,left,l,b,o,h0,e=>by
  simp only [Lt.strip,Its.count,Option.some.injEq] at e;subst e;simp [Lt.refsL,Lt.len];exact h0
 | .cons k n un ia ic its ma mc ms r,d,left,l,b,o,h0,e=>by
  simp only [Lt.strip,Its.count] at e
  split at e
  ·rename_i hc
   obtain ⟨c0,c1,_⟩:=hc;rw [Lt.strip_len] at c1
   split at e
   ·cases e
   ·rename_i l1 e1
    rw [Lt.strip_len] at e1;obtain ⟨z1,a1⟩:=EO its _ _ _ (blk ia) (off ia) (by omega) e1;obtain ⟨z2,b1⟩:=EO r _ _ _ b (o+6) z1 e
    have hm:∀(o:Nat) (ms:List Mov),(As (blk ma) o ms).length=ms.length:=by
     intro o ms
     induction ms generalizing o with
     | nil=>rfl
     | cons m ms ih=>simp [As,ih]
    refine ⟨z2,?_⟩;simp only [Lt.refsL,List.length_cons,List.length_append,hm,Lt.len]
    push_cast
    omega
  ·cases e
theorem G7:∀(ps:List Ph) (left l:Int),0≤left→countP (ps.map Ph.strip) left=some l→0≤l∧((Ar ps).length:Int)≤65*(left-l)
 | [],left,l,h,e=>by simp only [List.map_nil,countP,Option.some.injEq] at e;subst e;simp [Ar];exact h
 | q::r,left,l,h,e=>by
  simp only [List.map_cons,countP] at e
  split at e
  ·cases e
  ·rename_i l1 e1
   unfold Its.countL at e1
   split at e1
   ·rename_i hc
    obtain ⟨c1,_⟩:=hc;simp only [Ph.strip,Lt.strip_len] at c1 e1;obtain ⟨z1,a1⟩:=EO q.its _ _ _ (blk q.ia) (off q.ia) (by omega) e1;obtain ⟨z2,b1⟩:=G7 r _ _ z1 e;refine ⟨z2,?_⟩;simp only [Ar,Ph.refsL,List.length_append]
    push_cast
    omega
   ·cases e1
theorem PX{s:Ls}(h:s.strip.lims=true):s.refs.length≤1000000:=by
 have hd:=(DS h).2.1;unfold Sc.lims at h;simp only [Bool.and_eq_true] at h;obtain ⟨l,hl⟩:=Option.isSome_iff_exists.1 h.2;obtain ⟨z,a⟩:=G7 s.phrases 4096 l (by omega) hl
 have hA:∀(b o:Nat) (ds:List Dan),(Ao b o ds).length=2*ds.length:=by
  intro b o ds
  induction ds generalizing o with
  | nil=>rfl
  | cons d ds ih=>simp only [Ao,List.length_cons,ih];omega
 unfold Ls.refs;rw [List.length_append,hA];omega
noncomputable def elem16n0:Code:=qe 0 AJ
noncomputable def elem16n1:Code:=qe 1 AJ
noncomputable def elem16n2:Code:=qe 2 AJ
noncomputable def elem16n3:Code:=qe 3 AJ
theorem T0:AJ=.seq elem16n0 (Ab 1 AJ):=rfl
theorem T1:Ab 1 AJ=.seq elem16n1 (Ab 2 AJ):=rfl
theorem T4:Ab 2 AJ=.seq elem16n2 (Ab 3 AJ):=rfl
theorem T5:Ab 3 AJ=.seq elem16n3 (Ab 4 AJ):=rfl
theorem SR(s:Ls)(W:World)(K:Act→World→Prop)
  (hK:∀(W':World) (B1 E:Nat),Below W.heap.size W W'→W.heap.size≤B1→W.heap.size≤E→B1≠E→W'.heap[B1]?=some (.cells s.cells 30 (0,0))→W'.heap[E]?=some (.cells #[int i64 0] 40 (0,0)) →
   ∀(e0 e3 e4 e5 e6 e7 e8 e9 ea eb ec ed ee ef eg eh ei ej ek el em en eo ep eq er es et eu ev ew ex ey ez eA eB:Value),K { tmps:=#[e0,.pointer (some ⟨B1,0,none⟩),.pointer (some ⟨E,0,none⟩),e3,e4,e5,e6,e7,e8,e9,ea,eb,ec,ed,ee,ef,eg,eh,ei,ej,ek,el,em,en,eo,ep,eq,er,es,et,eu,ev,ew,ex,ey,ez,eA,eB],defers:=[] } W') :
  elem16n0.wp Tryz.prog (Exit.then K (λ_ _ _=>False)) { tmps:=#[s.val]++Array.replicate 37 undef,defers:=[] } W:=by
 unfold Ls.val;unfold Ls.cells at hK ⊢;obtain ⟨W1,x1,g1,b1,s1⟩:=Af W #[sv s.name,int i64 s.wd,int i64 s.dp,int i64 s.bars,int i64 s.t0,int i64 s.t1,.slice s.ra s.roles.length s.rc,.slice s.ta s.tempos.length s.tc,.slice s.ua s.pauses.length s.uc,.slice s.sa s.spans.length s.sc,.slice s.fa s.phrases.length s.fc,.slice s.da s.dances.length s.dc] 30;obtain ⟨W3,x3,g3,b3,s3⟩:=Af W1 #[int i64 0] 40;have HF:=qh (hK W3 W.heap.size W1.heap.size (b1.trans (b3.mono (by omega))) (qn _) (by omega) (by omega) ((b3.block _ (by omega)).trans g1) g3);clear hK g1 g3 b1 b3 s1 s3;simp only [Array.replicate];unfold elem16n0 AJ
 conv=>arg 2;whnf
 go_wp2_with fail;exact HF.out _ _ _ _ _ _ _ _ _ _ _ _ _ _ _ _ _ _ _ _ _ _ _ _ _ _ _ _ _ _ _ _ _ _ _ _
theorem PO{V:World}{E:Nat}{x:Value}(hE:V.heap[E]?=some (.cells #[x] 40 (0,0)))(xs:Array Value)(v:Value):∃W',(V.alloc (.cells xs 30)).setCell ⟨E,0,none⟩ v=W' ∧
   W'.heap[V.heap.size]?=some (.cells xs 30 (0,0))∧W'.heap[E]?=some (.cells #[v] 40 (0,0))∧ButOne E V W':=by
 have hA:=(qs.1 hE).1;obtain ⟨W1,x1,g1,b1,s1⟩:=Af V xs 30;have hB:W1.heap[E]?=some (.cells #[x] 40 (0,0)):=(b1.block _ hA).trans hE;obtain ⟨W3,x3,g3,o3,b3,s3⟩:=Bp hB v;refine ⟨W3,by rw [x1,x3],(o3 _ (by omega)).trans g1,g3,?_⟩;rw [← x3];exact (ButOne.of_below b1).trans (ButOne.setCell (p:=⟨E,0,none⟩) _)
theorem SS(s:Ls)(ns:List Int)(B1 E:Nat)(W:World)(hB:W.heap[B1]?=some (.cells s.cells 30 (0,0)))(hE:W.heap[E]?=some (.cells #[int i64 0] 40 (0,0)))(hA:s.At W)(hN:NsAt W s.refs ns)(he:Env W)(K:Act→World→Prop)
  (hK:∀(V W':World) (xv:Array Value) (X:Nat),Lr s ns W (.returned (.tuple #[.agg xv,int i64 (Db s.strip ns)])) V→V.heap.size≤X→X<W'.heap.size→W'.heap[X]?=some (.cells xv 30 (0,0))→W'.heap[E]?=some (.cells #[int i64 (Db s.strip ns)] 40 (0,0))→ButOne E V W' →
   ∀(e0 e4 e5 e6 e7 e8 e9 ea eb ec ed ee ef eg eh ei ej ek el em en eo ep eq er es et eu ev ew ex ey ez eA eB:Value),K { tmps:=#[e0,.pointer (some ⟨B1,0,none⟩),.pointer (some ⟨E,0,none⟩),.pointer (some ⟨X,0,none⟩),e4,e5,e6,e7,e8,e9,ea,eb,ec,ed,ee,ef,eg,eh,ei,ej,ek,el,em,en,eo,ep,eq,er,es,et,eu,ev,ew,ex,ey,ez,eA,eB],defers:=[] } W')
:
  elem16n1.wp Tryz.prog (Exit.then K (λ_ _ _=>False)) { tmps:=#[e0,.pointer (some ⟨B1,0,none⟩),.pointer (some ⟨E,0,none⟩),e3,e4,e5,e6,e7,e8,e9,ea,eb,ec,ed,ee,ef,eg,eh,ei,ej,ek,el,em,en,eo,ep,eq,er,es,et,eu,ev,ew,ex,ey,ez,eA,eB],defers:=[] } W:=by
 have hF:=(qs.1 hE).1
 have C:Calls Tryz.prog 89 #[.agg s.cells] W λe V=>∃(nm:Nm) (i1 i2 i3 i4 i5:Int) (a6 a7 a8 a9 a10 a11:Option Addr) (n6 n7 n8 n9 n10 n11 k6 k7 k8 k9 k10 k11:Nat),e=.returned (.tuple #[.agg #[sv nm,int i64 i1,int i64 i2,int i64 i3,int i64 i4,int i64 i5,.slice a6 n6 k6,.slice a7 n7 k7,.slice a8 n8 k8,.slice a9 n9 k9,.slice a10 n10 k10,.slice a11 n11 k11],int i64 (Db s.strip ns)])∧V.heap[E]?=some (.cells #[int i64 0] 40 (0,0))∧Hid (Lr s ns W (.returned (.tuple #[.agg #[sv nm,int i64 i1,int i64 i2,int i64 i3,int i64 i4,int i64 i5,.slice a6 n6 k6,.slice a7 n7 k7,.slice a8 n8 k8,.slice a9 n9 k9,.slice a10 n10 k10,.slice a11 n11 k11],int i64 (Db s.strip ns)])) V):=by
  refine (RJ s ns W hA hN he).mono ?_;intro e V h;have hC:=(h.2.block E hF).trans hE
  rcases id h with ⟨⟨h0,x,ks,rfl,_⟩|⟨h0,rfl⟩,_⟩
  ·rw [h0]
   refine ⟨_,_,_,_,_,_,_,_,_,_,_,_,_,_,_,_,_,_,_,_,_,_,_,_,rfl,hC,qh ?_⟩;rw [h0] at *;exact h
  ·exact ⟨[],0,0,0,0,0,none,none,none,none,none,none,0,0,0,0,0,0,0,0,0,0,0,0,rfl,hC,qh h⟩
 unfold Ls.cells at hB C;have y0:=Aa hB 0 rfl;have y1:=Aa hB 1 rfl;have y2:=Aa hB 2 rfl;have y3:=Aa hB 3 rfl;have y4:=Aa hB 4 rfl;have y5:=Aa hB 5 rfl;have y6:=Aa hB 6 rfl;have y7:=Aa hB 7 rfl;have y8:=Aa hB 8 rfl;have y9:=Aa hB 9 rfl;have y10:=Aa hB 10 rfl;have y11:=Aa hB 11 rfl;have HC:=qh C;have HK:=qh hK;clear C hK hB hE hA hN he hF;dsimp only;unfold elem16n1 AJ
 conv=>arg 2;whnf
 go_wp2_with (go_at_call 89;refine HC.out.mono ?_;rintro e V ⟨nm,i1,i2,i3,i4,i5,a6,a7,a8,a9,a10,a11,n6,n7,n8,n9,n10,n11,k6,k7,k8,k9,k10,k11,rfl,hC,hR⟩;obtain ⟨W',xW,gX,gE,hD⟩:=PO hC #[sv nm,int i64 i1,int i64 i2,int i64 i3,int i64 i4,int i64 i5,.slice a6 n6 k6,.slice a7 n7 k7,.slice a8 n8 k8,.slice a9 n9 k9,.slice a10 n10 k10,.slice a11 n11 k11] (int i64 (Db s.strip ns));have HF:=qh (HK.out V W' _ _ hR.out (qn _) (qs.1 gX).1 gX gE hD);have hG:=(qs.1 hC).1;have eV:V.cell? ⟨E,0,none⟩=some (int i64 0):=Aa hC 0 rfl;have fV:=(show FreeB V E from ⟨_,_,hC⟩).free 0;clear gX gE hD hC);exact HF.out _ _ _ _ _ _ _ _ _ _ _ _ _ _ _ _ _ _ _ _ _ _ _ _ _ _ _ _ _ _ _ _ _ _ _
end
section
open Go Go.RowKit Go.Shelf
noncomputable def Ks:Code:=qe 4 AJ
noncomputable def Kt:Code:=qe 5 AJ
theorem T7:Ab 4 AJ=.seq Ks (Ab 5 AJ):=rfl
theorem T8:Ab 5 AJ=.seq Kt (Ab 6 AJ):=rfl
theorem MK(t:Array Value)(E D1 D2:Nat)(v:Value)(R:Ending→World→Prop)(W:World)(hA:t.getD 2 undef=.pointer (some ⟨E,0,none⟩))(hE:W.heap[E]?=some (.cells #[v] 40 (0,0)))(h1:W.heap[D1]?=some (.deferred (some [])))(h2:W.heap[D2]?=some (.deferred (some [])))(hB:D1≠D2)
  (hR:∀W',(∀B,B≤D1→B≤D2→Below B W W')→R (.returned v) W') :
  bodyPostM Fence.wide 0 Tryz.prog Tryz.f54 R .ret { tmps:=t,defers:=[{ target:=.collected D2,args:=#[] },{ target:=.collected D1,args:=#[] }] } W:=by
 have n1:E≠D1:=λe=>by rw [e,h1] at hE;cases hE
 have n2:E≠D2:=λe=>by rw [e,h2] at hE;cases hE
 refine ⟨by simp,.inl ⟨D2,_,rfl,run_takeDeferred h2,?_⟩⟩;refine ⟨by simp,.inl ⟨D1,_,rfl,run_takeDeferred ((World.putObj_heap_other hB).trans h1),?_⟩⟩;have hC:((W.putObj D2 (.deferred none)).putObj D1 (.deferred none)).heap[E]?=some (.cells #[v] 40 (0,0)):=(World.putObj_heap_other n1).trans ((World.putObj_heap_other n2).trans hE);have yE:((W.putObj D2 (.deferred none)).putObj D1 (.deferred none)).cell? ⟨E,0,none⟩=some v:=Aa hC 0 rfl;refine ⟨v,?_,hR _ λB b1 b2=>⟨rfl,rfl,rfl,by simp [World.putObj],λk hk=>(World.putObj_heap_other (by omega)).trans (World.putObj_heap_other (by omega))⟩⟩;simp at hA;simp [results,Tryz.results54,go_sem,hA,yE]
theorem NA(t:Array Value)(E:Nat)(v:Value)(R:Ending→World→Prop)(W:World)(hA:t.getD 2 undef=.pointer (some ⟨E,0,none⟩))(hE:W.heap[E]?=some (.cells #[v] 40 (0,0)))(hR:R (.returned v) W) :
  bodyPostM Fence.wide 0 Tryz.prog Tryz.f54 R .ret { tmps:=t,defers:=[] } W:=by
 have yE:W.cell? ⟨E,0,none⟩=some v:=Aa hE 0 rfl;refine ⟨v,?_,hR⟩;simp at hA;simp [results,Tryz.results54,go_sem,hA,yE]
theorem ST(c:Int)(B1 E X:Nat)(W:World)(hE:W.heap[E]?=some (.cells #[int i64 c] 40 (0,0)))(K:Act→World→Prop)(Q:Exit→Act→World→Prop)
  (hK:c=0→∀(e0 e4 e5 e6 e7 e8 e9 ea eb ec ed ee ef eg eh ei ej ek el em en eo ep eq er es et eu ev ew ex ey ez eA eB:Value),K { tmps:=#[e0,.pointer (some ⟨B1,0,none⟩),.pointer (some ⟨E,0,none⟩),.pointer (some ⟨X,0,none⟩),e4,e5,e6,e7,e8,e9,ea,eb,ec,ed,ee,ef,eg,eh,ei,ej,ek,el,em,en,eo,ep,eq,er,es,et,eu,ev,ew,ex,ey,ez,eA,eB],defers:=[] } W)
  (hA:c≠0→∀W',W'.heap[E]?=some (.cells #[int i64 c] 40 (0,0))→(∀B w0,Below B w0 W→B≤E→Below B w0 W')→∀(e0 e4 e5 e6 e7 e8 e9 ea eb ec ed ee ef eg eh ei ej ek el em en eo ep eq er es et eu ev ew ex ey ez eA eB:Value),Q .ret { tmps:=#[e0,.pointer (some ⟨B1,0,none⟩),.pointer (some ⟨E,0,none⟩),.pointer (some ⟨X,0,none⟩),e4,e5,e6,e7,e8,e9,ea,eb,ec,ed,ee,ef,eg,eh,ei,ej,ek,el,em,en,eo,ep,eq,er,es,et,eu,ev,ew,ex,ey,ez,eA,eB],defers:=[] } W')
:
  elem16n2.wp Tryz.prog (Exit.then K Q) { tmps:=#[e0,.pointer (some ⟨B1,0,none⟩),.pointer (some ⟨E,0,none⟩),.pointer (some ⟨X,0,none⟩),e4,e5,e6,e7,e8,e9,ea,eb,ec,ed,ee,ef,eg,eh,ei,ej,ek,el,em,en,eo,ep,eq,er,es,et,eu,ev,ew,ex,ey,ez,eA,eB],defers:=[] } W:=by
 have yE:W.cell? ⟨E,0,none⟩=some (int i64 c):=Aa hE 0 rfl;have fE:=(show FreeB W E from ⟨_,_,hE⟩).free 0;by_cases h0:c=0
 ·have HF:=qh (hK h0)
  subst h0;clear hK hA hE;dsimp only;unfold elem16n2 AJ
  conv=>arg 2;whnf
  go_wp2_with fail;exact HF.out _ _ _ _ _ _ _ _ _ _ _ _ _ _ _ _ _ _ _ _ _ _ _ _ _ _ _ _ _ _ _ _ _ _ _
 ·obtain ⟨W',xW,g,_,b,_⟩:=Bp hE (int i64 c)
  have HF:=qh (hA h0 W' g b);have hb:(c != 0)=true:=by simpa using h0
  clear hK hA hE g b;dsimp only;unfold elem16n2 AJ
  conv=>arg 2;whnf
  go_wp2_with fail;exact HF.out _ _ _ _ _ _ _ _ _ _ _ _ _ _ _ _ _ _ _ _ _ _ _ _ _ _ _ _ _ _ _ _ _ _ _
theorem SU(B1 E X:Nat)(W:World)(K:Act→World→Prop)
  (hK:∀W' TB,Below W.heap.size W W'→W.heap.size≤TB→W'.heap[TB]?=some (.cells #[.slice none 0 0] 116 (0,0))→∀(e0 e5 e6 e7 e8 e9 ea eb ec ed ee ef eg eh ei ej ek el em en eo ep eq er es et eu ev ew ex ey ez eA eB:Value),K { tmps:=#[e0,.pointer (some ⟨B1,0,none⟩),.pointer (some ⟨E,0,none⟩),.pointer (some ⟨X,0,none⟩),.pointer (some ⟨TB,0,none⟩),e5,e6,e7,e8,e9,ea,eb,ec,ed,ee,ef,eg,eh,ei,ej,ek,el,em,en,eo,ep,eq,er,es,et,eu,ev,ew,ex,ey,ez,eA,eB],defers:=[] } W')
:
  elem16n3.wp Tryz.prog (Exit.then K (λ_ _ _=>False)) { tmps:=#[e0,.pointer (some ⟨B1,0,none⟩),.pointer (some ⟨E,0,none⟩),.pointer (some ⟨X,0,none⟩),e4,e5,e6,e7,e8,e9,ea,eb,ec,ed,ee,ef,eg,eh,ei,ej,ek,el,em,en,eo,ep,eq,er,es,et,eu,ev,ew,ex,ey,ez,eA,eB],defers:=[] } W:=by
 obtain ⟨W1,x1,g1,b1,s1⟩:=Af W #[.slice none 0 0] 116;have HF:=qh (hK W1 W.heap.size b1 (qn _) g1);clear hK g1 b1 s1;dsimp only;unfold elem16n3 AJ
 conv=>arg 2;whnf
 go_wp2_with fail;exact HF.out _ _ _ _ _ _ _ _ _ _ _ _ _ _ _ _ _ _ _ _ _ _ _ _ _ _ _ _ _ _ _ _ _ _
def N6(s:Sc)(ns:List Int)(w:World)(e:Ending)(w':World):Prop:=e=.returned (int i64 (Dd s ns))∧Below w.heap.size w w'
section
attribute [local go_sem] Oper.semAt_some
theorem Nf(s x:Ls)(ns ks:List Int)(w:World)(h0:Db s.strip ns=0)(hK:s.strip.idx ns=some ks)(he:ns.length=x.refs.length)(hf:x.strip.kinds=true)
  (B1 E X TB g D1:Nat) (W:World) (hX:W.heap[X]?=some (.cells x.cells 30 (0,0))) (hE:W.heap[E]?=some (.cells #[int i64 0] 40 (0,0))) (hD:W.heap[D1]?=some (.deferred (some [])))
  (hT:∃ao c,W.heap[TB]?=some (.cells #[.slice ao x.refs.length c] 116 (0,0))∧(0<x.refs.length→ao=some ⟨g,0,none⟩)∧x.refs.length≤c)
  (hG:∀(i:Nat) (n:Int),ns[i]?=some n→W.cell? ⟨g,i,none⟩=some (int i64 n)) (hh:g≠TB)
  (hA:x.At W) (hN:NsAt W x.refs ks) (hi:∀r∈x.refs,r.b≠TB) (hj:∀b∈AZ x.phrases,b≠TB) (hl:x.phrases≠[]→blk x.fa≠TB)
  (hb:Below w.heap.size w W) (hH:w.heap.size≤TB∧w.heap.size≤E∧w.heap.size≤D1) (e0 e5 e6 e7 e8 e9 ea eb ec ed ee ef eg eh ei ej ek el em en eo ep eq er es et eu ev ew ex ey ez eA eB:Value) :
  Dz 54 Tryz.prog (Ab 5 AJ) (bodyPostM Fence.wide 0 Tryz.prog Tryz.f54 (N6 s.strip ns w)) { tmps:=#[e0,.pointer (some ⟨B1,0,none⟩),.pointer (some ⟨E,0,none⟩),.pointer (some ⟨X,0,none⟩),.pointer (some ⟨TB,0,none⟩),e5,e6,e7,e8,e9,ea,eb,ec,ed,ee,ef,eg,eh,ei,ej,ek,el,em,en,eo,ep,eq,er,es,et,eu,ev,ew,ex,ey,ez,eA,eB],defers:=[{ target:=.collected D1,args:=#[] }] } W:=by
 obtain ⟨ao,c,hF,hm,hn⟩:=hT;have hS:E≠TB:=λe=>by rw [e,hF] at hE;simp at hE
 have hU:X≠TB:=λe=>by rw [e,hF] at hX;simp at hX
 have hV:D1≠TB:=λe=>by rw [e,hF] at hD;simp at hD
 have h4:=(qs.1 hF).1;have h5:=(qs.1 hE).1;have h6:=(qs.1 hX).1;rw [T8];refine FB ?_;unfold Kt AJ
 conv=>arg 3;whnf
 refine AH (λK hW=>?_);have hY:=qh hW;clear hW;have ho:=qh hX;have hp:=qh hE;have hq:=qh hD;have ht:=qh hF;clear hX hE hD hF;dsimp only
 go_wp2_with (go_at_call 90;refine (EP ⟨X,0,none⟩ W).mono ?_;rintro e W1 ⟨rfl,g1,b1,s1⟩);refine hY.out _ _ ?_;clear hY;have hX:=ho.out;have hE:=hp.out;have hD:=hq.out;have hF:=ht.out;have o1:∀{b:Nat} {o:Obj},W.heap[b]?=some o→W1.heap[b]?=some o:=λh=>(b1.block _ (qs.1 h).1).trans h
 have hZ:=hA.below b1;have hL:=o1 hX;unfold Ls.cells at hL
 have ha:∀(pre:List RefL) V,Chk2 TB W1 g x.refs.length ks ns pre V→FldR W.heap.size X x V:=λpre V h=>by
  refine ⟨h.but.cell (Aa g1 0 rfl) (by show W.heap.size≠TB;omega),h.but.cell (Aa hL 10 rfl) hU,h.but.cell (Aa hL 11 rfl) hU,?_⟩;by_cases hz:x.phrases=[]
  ·rw [hz];trivial
  ·exact CD hZ.phrases (λq v _ hc=>h.but.cellk (hl hz) hc) (λc hc q v h2=>h.but.cellk (hj c hc) h2)
 have hI0:Chk2 TB W1 g x.refs.length ks ns [] W1:=⟨ButOne.refl _ _,⟨ao,c,by simpa using o1 hF,by simpa using hm,by simpa using hn⟩,rfl⟩;have hJ:Below w.heap.size w W1:=hb.trans (b1.mono hb.size);have hu:ks.length=x.refs.length:=hN.len;refine EY ?_;refine Dm (fn0:=Tryz.f54) Tryz.func54 (gf:=130) (lb:=#[.pointer (some ⟨W.heap.size,0,none⟩)]) rfl (enters_of Tryz.func130 (by kernel_rfl) rfl)
  (EQ W.heap.size X x (FldR W.heap.size X x) (λ_ h=>h) hA.pform hA.plen hA.dform hA.dlen W1) (λ_=>rfl) (Chk2 TB W1 g x.refs.length ks ns) (Chk2X TB E w W1 ks ns) (λ_=>False)
  (λp V V' row h hg hr=>⟨h.but.grown hg (λk e=>(hr k e).1),by obtain ⟨a',c',q1,q2⟩:=h.row;exact ⟨a',c',(hg.block TB (qs.1 q1).1 (λe=>by have:=(hr TB e.symm).1;omega)).trans q1,q2⟩,h.same⟩)
  (λp V V' row h hg hr=>⟨Nat.le_trans h.size hg.size,λb h1 h2 h3=>(hg.block b (by have:=h.size;omega) (λe=>by have:=(hr b e.symm).1;omega)).trans (h.rest b h1 h2 h3),(hg.block E (qs.1 h.err).1 (λe=>by have:=(hr E e.symm).1;omega)).trans h.err,h.base.grown hg h.base.size (λk e=>by have:=(hr k e).1;have:=hJ.size;omega),h.ne⟩)
  (λp V V' h hb=>⟨h.but.trans (ButOne.of_below hb),by obtain ⟨a',c',q1,q2⟩:=h.row;exact ⟨a',c',(hb.block TB (qs.1 q1).1).trans q1,q2⟩,h.same⟩)
  hI0 ha
  (λr=>{ tmps:=#[e0,.pointer (some ⟨B1,0,none⟩),.pointer (some ⟨E,0,none⟩),.pointer (some ⟨X,0,none⟩),.pointer (some ⟨TB,0,none⟩),e5,.pointer (some ⟨r.b,r.o,none⟩),e7,e8,e9,ea,eb,ec,ed,ee,ef,eg,eh,ei,ej,ek,el,em,en,eo,.func (.func 130) #[] #[.pointer (some ⟨W.heap.size,0,none⟩)],.pointer (some ⟨r.b,r.o,none⟩),int i64 (r.to:Int),es,et,eu,ev,ew,ex,ey,ez,eA,eB],defers:=[] }) ?assign ?body ?bad ?done ?stop ?pan
 case assign =>
  intro l r V K hd;have hv:=qh hd;clear hd;unfold IB;dsimp only;gi_wp2_with fail;exact hv.out
 case body =>
  intro l pre r rest V hs hI;exact Mu rfl (Nc l B1 E X TB g w W1 ks ns x.refs (hN.below b1) hi ⟨hH.1,hH.2.1⟩ ⟨by omega,by omega⟩ hS hh (o1 hE) he (λi n h=>Ad b1 (hG i n h)) hJ pre rest r V hs hI)
 case bad=>exact λpre rest V _ hk _=>hk hf
 case pan=>exact λD V _ h _=>h.elim
 case stop =>
  intro D V hw hM hO;have hP:=(hM.rest D1 (by have:=(qs.1 hD).1;omega) hV (λe=>by rw [e,hE] at hD;cases hD)).trans (o1 hD);have hR:D1≠D:=by have:=(qs.1 hD).1;omega
  have hC:bodyPostM Fence.wide 0 Tryz.prog Tryz.f54 (N6 s.strip ns w) .ret { tmps:=#[e0,.pointer (some ⟨B1,0,none⟩),.pointer (some ⟨E,0,none⟩),.pointer (some ⟨X,0,none⟩),.pointer (some ⟨TB,0,none⟩),e5,e6,e7,e8,e9,ea,eb,ec,ed,ee,ef,eg,eh,ei,ej,ek,el,em,en,eo,.func (.func 130) #[] #[.pointer (some ⟨W.heap.size,0,none⟩)],eq,er,es,et,eu,ev,ew,ex,ey,ez,eA,eB],defers:=[{ target:=.collected D,args:=#[] },{ target:=.collected D1,args:=#[] }] } V:=by
   refine MK _ E D1 D _ _ V rfl hM.err hP hO hR λW' hB=>⟨?_,hM.base.trans (hB _ hH.2.2 (by have:=hJ.size;omega))⟩
   have:Dd s.strip ns=170:=by
    unfold Dd;rw [if_pos h0,hK,if_neg (λe=>hM.ne (by injection e))]
   rw [this]
  have HF:=qh hC;clear hC;refine wpIn_wide.2 ?_;dsimp only;go_wp2_with fail;exact HF.out
 case done =>
  intro D V hw _ hI hO;have hP:=(hI.but.block D1 (by have:=(qs.1 hD).1;omega) hV).trans (o1 hD);have hR:D1≠D:=by have:=(qs.1 hD).1;omega
  have hQ:=(hI.but.block E (by omega) hS).trans (o1 hE);obtain ⟨W3,x3,g3,o3,b3,s3⟩:=Bp hQ (int i64 0)
  have hx:ks=ns:=by
   have:=hI.same;rw [List.take_of_length_le (by omega),List.take_of_length_le (by omega)] at this;exact this
  have hy:E≠D:=by omega
  have hC:bodyPostM Fence.wide 0 Tryz.prog Tryz.f54 (N6 s.strip ns w) .ret { tmps:=#[e0,.pointer (some ⟨B1,0,none⟩),.pointer (some ⟨E,0,none⟩),.pointer (some ⟨X,0,none⟩),.pointer (some ⟨TB,0,none⟩),e5,e6,e7,e8,e9,ea,eb,ec,ed,ee,ef,eg,eh,ei,ej,ek,el,em,en,eo,.func (.func 130) #[] #[.pointer (some ⟨W.heap.size,0,none⟩)],eq,er,es,et,eu,ev,ew,ex,ey,ez,eA,eB],defers:=[{ target:=.collected D,args:=#[] },{ target:=.collected D1,args:=#[] }] } W3:=by
   refine MK _ E D1 D _ _ W3 rfl g3 ((o3 _ (λe=>by rw [e,hE] at hD;cases hD)).trans hP) ((o3 _ hy.symm).trans hO) hR λW' hB=>⟨?_,(b3 _ _ (hJ.trans (hI.but.below hH.1 hJ.size)) hH.2.1).trans (hB _ hH.2.2 (by have:=hJ.size;omega))⟩
   have:Dd s.strip ns=0:=by
    unfold Dd;rw [if_pos h0,hK,if_pos (by rw [hx])]
   rw [this]
  have HF:=qh hC;have yE:V.cell? ⟨E,0,none⟩=some (int i64 0):=Aa hQ 0 rfl;have fE:=(show FreeB V E from ⟨_,_,hQ⟩).free 0;clear hC hI g3 o3 b3 s3 hP hO hQ hE hX hD hF ha hI0 hZ hL hA hN
  show Dz 54 Tryz.prog (Ab 6 AJ) _ _ V
  refine EZ ?_;unfold AJ
  conv=>arg 2;whnf
  dsimp only;go_wp2_with fail;exact HF.out
end
end
section
open Go Go.RowKit Go.Shelf
theorem NsAt.lt{w:World}:∀{xs:List RefL} {ns:List Int},NsAt w xs ns→∀r∈xs,r.b<w.heap.size
 | [],_,_,_,h=>by cases h
 | x::xs,[],h,_,_=>h.elim
 | x::xs,n::ns,⟨h1,h2⟩,r,hr=>by
  rcases List.mem_cons.1 hr with rfl|hr
  ·exact CN h1
  ·exact h2.lt r hr
theorem Rz{w:World}{b o:Nat}{ps:List Ph}(h:Bk w b o ps)(hz:ps≠[]):b<w.heap.size:=by
 cases ps with
 | nil=>exact absurd rfl hz
 | cons p r=>exact CN h.1.1
section
attribute [local go_sem] Oper.semAt_some
theorem Nd(s x:Ls)(ns ks:List Int)(w V0:World)(h0:Db s.strip ns=0)(hG:s.strip.lims=true)(hA:s.strip.idx ns=some ks)(hH:x.strip=s.strip)
  (hC:s.At V0) (hK:NsAt V0 s.refs ns) (hAx:x.At V0) (hP:NsAt V0 x.refs ks) (hJ:Below w.heap.size w V0)
  (B1 E X TB:Nat) (W:World) (hV:Below V0.heap.size V0 W) (hB:W.heap[B1]?=some (.cells s.cells 30 (0,0))) (hX:W.heap[X]?=some (.cells x.cells 30 (0,0))) (hE:W.heap[E]?=some (.cells #[int i64 0] 40 (0,0)))
  (hT:W.heap[TB]?=some (.cells #[.slice none 0 0] 116 (0,0))) (hQ:V0.heap.size≤TB) (hc:w.heap.size≤E):
  Dz 54 Tryz.prog (Ab 4 AJ) (bodyPostM Fence.wide 0 Tryz.prog Tryz.f54 (N6 s.strip ns w)) { tmps:=#[e0,.pointer (some ⟨B1,0,none⟩),.pointer (some ⟨E,0,none⟩),.pointer (some ⟨X,0,none⟩),.pointer (some ⟨TB,0,none⟩),e5,e6,e7,e8,e9,ea,eb,ec,ed,ee,ef,eg,eh,ei,ej,ek,el,em,en,eo,ep,eq,er,es,et,eu,ev,ew,ex,ey,ez,eA,eB],defers:=[] } W:=by
 have hR:s.strip.kinds=true:=by
  unfold Sc.idx at hA
  split at hA
  ·assumption
  ·cases hA
 have hD:x.refs.length=s.refs.length:=by
  have h1:=congrArg List.length (Ls.refs_key x);have h2:=congrArg List.length (Ls.refs_key s);rw [hH] at h1;simp only [List.length_map] at h1 h2;omega
 have hd:ns.length=s.refs.length:=hK.len;have hL:=PX hG;have he:E≠TB:=λe=>by rw [e,hT] at hE;simp at hE
 have hf:X≠TB:=λe=>by rw [e,hT] at hX;simp at hX
 have hS:B1≠TB:=λe=>by rw [e,hT] at hB;simp at hB
 have hw:=(qs.1 hT).1;have hx:=(qs.1 hE).1;have hy:=(qs.1 hX).1;have hh:=hV.size;have h3:=hC.below hV;rw [T7];refine FB ?_;unfold Ks AJ
 conv=>arg 3;whnf
 refine AH (λK hU=>?_);have hW:=qh hU;clear hU;have hi:=qh hB;have hj:=qh hX;have hl:=qh hE;have hm:=qh hT;clear hB hX hE hT;dsimp only
 go_wp2_with (go_at_call 90;refine (EP ⟨B1,0,none⟩ W).mono ?_;rintro e W1 ⟨rfl,g1,b1,s1⟩);refine hW.out _ _ ?_;clear hW;have hB:=hi.out;have hX:=hj.out;have hE:=hl.out;have hT:=hm.out;have o1:∀{b:Nat} {o:Obj},W.heap[b]?=some o→W1.heap[b]?=some o:=λh=>(b1.block _ (qs.1 h).1).trans h
 have hF:Below V0.heap.size V0 W1:=hV.trans (b1.mono hh);have h4:=hC.below hF;have hM:=o1 hB;unfold Ls.cells at hM
 have hn:∀(pre:List RefL) V,Chk1 TB W1 ns pre V→FldR W.heap.size B1 s V:=λpre V h=>by
  refine ⟨h.but.cell (Aa g1 0 rfl) (by show W.heap.size≠TB;omega),h.but.cell (Aa hM 10 rfl) hS,h.but.cell (Aa hM 11 rfl) hS,?_⟩;exact Bd (hF.trans (h.but.below hQ hF.size)) hC.phrases
 have hI0:Chk1 TB W1 ns [] W1:=⟨ButOne.refl _ _,none,0,o1 hT,World.ownsRow_nil _ _ _ _⟩;have ho:∀r∈s.refs,r.b≠TB:=λr hr e=>by have:=hK.lt r hr;omega
 refine EY ?_;refine Dm (fn0:=Tryz.f54) Tryz.func54 (gf:=130) (lb:=#[.pointer (some ⟨W.heap.size,0,none⟩)]) rfl (enters_of Tryz.func130 (by kernel_rfl) rfl)
  (EQ W.heap.size B1 s (FldR W.heap.size B1 s) (λ_ h=>h) hC.pform hC.plen hC.dform hC.dlen W1) (λ_=>rfl) (Chk1 TB W1 ns) (λ_=>False) (λ_=>False)
  (λp V V' row h hg hr=>by
   obtain ⟨a',c',q1,q2⟩:=h.row;refine ⟨h.but.grown hg (λk e=>(hr k e).1),a',c',(hg.block TB (qs.1 q1).1 (λe=>by have:=(hr TB e.symm).1;omega)).trans q1,q2.kept hg ?_⟩
   cases hY:(Value.slice a' p.length c').ownBlock with
   | none=>exact Or.inl rfl
   | some k =>
    refine Or.inr λe=>?_
    obtain ⟨o,hZ,hp⟩:=(hr k e.symm).2;obtain ⟨⟨cur,fr,q4⟩,_⟩:=BE q2 hY;rw [q4] at hZ;cases hZ
    cases hp)
  (λ_ _ _ _ h=>h.elim)
  (λp V V' h hb=>by
   obtain ⟨a',c',q1,q2⟩:=h.row
   exact ⟨h.but.trans (ButOne.of_below hb),a',c',(hb.block TB (qs.1 q1).1).trans q1,q2.kept (row:=none) ⟨hb.os,hb.tape,hb.output,hb.size,λk hk _=>hb.block k hk⟩ (by cases hY:(Value.slice a' p.length c').ownBlock<;>simp)⟩)
  hI0 hn
  (λr=>{ tmps:=#[e0,.pointer (some ⟨B1,0,none⟩),.pointer (some ⟨E,0,none⟩),.pointer (some ⟨X,0,none⟩),.pointer (some ⟨TB,0,none⟩),.pointer (some ⟨r.b,r.o,none⟩),e6,e7,e8,e9,ea,eb,ec,ed,ee,.func (.func 130) #[] #[.pointer (some ⟨W.heap.size,0,none⟩)],.pointer (some ⟨r.b,r.o,none⟩),int i64 (r.to:Int),ei,ej,ek,el,em,en,eo,ep,eq,er,es,et,eu,ev,ew,ex,ey,ez,eA,eB],defers:=[] }) ?assign ?body ?bad ?done ?stop ?pan
 case assign =>
  intro l r V K ha;have hq:=qh ha;clear ha;unfold IB;dsimp only;gi_wp2_with fail;exact hq.out
 case body =>
  intro l pre r rest V hs hI;exact Mu rfl (Nb l B1 E X TB W1 ns s.refs (hK.below hF) ho (by omega) hL pre rest r V hs hI)
 case bad=>exact λpre rest V _ hk _=>hk hR
 case pan=>exact λD V _ h _=>h.elim
 case stop=>exact λD V _ h _=>h.elim
 case done =>
  intro D V h5 _ hI ht;obtain ⟨ao,c,t1,t2⟩:=hI.row;have hu:ns.take s.refs.length=ns:=List.take_of_length_le (by omega);rw [hu] at t2;have hN:Below V0.heap.size V0 V:=hF.trans (hI.but.below hQ hF.size)
  have hO:∃g,g≠TB∧(0<s.refs.length→ao=some ⟨g,0,none⟩)∧s.refs.length≤c∧∀(i:Nat) (n:Int),ns[i]?=some n→V.cell? ⟨g,i,none⟩=some (int i64 n):=by
   rcases t2.2 with ⟨q1,q2⟩|⟨g,c3,cur,q1,q2,q3,q4,_⟩
   ·refine ⟨TB+1,by omega,λh=>by omega,by omega,λi n h=>?_⟩
    have:ns=[]:=List.length_eq_zero_iff.1 (by omega);rw [this] at h;cases h
   ·injection q1 with e1 e2 e3
    subst e1 e3;refine ⟨g,by omega,λ_=>rfl,q4,λi n h=>?_⟩;have:=t2.cells (g:=g) rfl i (int i64 n) (by unfold GX;rw [List.getElem?_map,h];rfl);rw [Bc,Nat.zero_add] at this;exact this
  obtain ⟨g,hv,r1,r2,r3⟩:=hO
  show Dz 54 Tryz.prog (Ab 5 AJ) _ _ V
  refine Nf s x ns ks w h0 hA (by omega) (by rw [hH];exact hR) B1 E X TB g D V ((hI.but.block X (by omega) hf).trans (o1 hX)) ((hI.but.block E (by omega) he).trans (o1 hE)) ht ⟨ao,c,by rw [hD];exact t1,by rw [hD];exact r1,by rw [hD];exact r2⟩ r3 hv
   (hAx.below hN) (hP.below hN) (λr hr e=>by have:=hP.lt r hr;omega) (λb hb e=>by have:=Fq hAx.phrases b hb;omega) (λhz e=>by have:=Rz hAx.phrases hz;omega)
   (hJ.trans (hN.mono hJ.size)) ⟨by have:=hJ.size;omega,hc,by have:=hJ.size;omega⟩ _ _ _ _ _ _ _ _ _ _ _ _ _ _ _ _ _ _ _ _ _ _ _ _ _ _ _ _ _ _ _ _ _ _
end
theorem QM(s:Ls)(ns:List Int)(w:World)(hA:s.At w)(hN:NsAt w s.refs ns)(he:Env w):Calls Tryz.prog 54 #[s.val] w (N6 s.strip ns w):=by
 refine EE Tryz.func54 (c:=AJ) rfl ?_;rw [T0];refine AH (λK hK=>?_);refine wp_mono (SR s w K ?_) C3;intro W0 B1 E hD gB gE hg hB hE
 intros
 refine hK _ _ ?_;rw [T1];refine AH (λK hK=>?_);have hS:=hA.below hD;have hU:=hN.below hD;refine wp_mono (SS s ns B1 E W0 hB hE hS hU (he.below hD) K ?_) C3;intro V W1 xv X hR hh hi hX hH hC
 intros
 refine hK _ _ ?_;have hF:Below W0.heap.size W0 V:=hR.2;have hJ:Below w.heap.size w V:=hD.trans (hF.mono hD.size);have hL:Below w.heap.size w W1:=hJ.trans (hC.below gE hJ.size);rw [T4];refine AH (λK hK=>?_);refine ST (Db s.strip ns) B1 E X W1 hH K _ ?_ ?_
 ·intro h0
  intros
  refine hK _ _ ?_;rw [T5];refine AH (λK hK=>?_);refine wp_mono (SU B1 E X W1 K ?_) C3;intro W2 TB hV gT hT
  intros
  refine hK _ _ ?_;obtain ⟨x,ks,hI,hM,hAx,hY,hO,_⟩:=(hR.1.resolve_right (λh=>h.1 h0)).2;rw [h0] at hI hH
  have hZ:xv=x.cells:=by
   unfold Ls.val at hI;simp only [Ending.returned.injEq,Value.tuple.injEq] at hI;simpa using hI
  subst hZ
  have hG:s.strip.lims=true:=by
   cases hc:s.strip.lims with
   | true=>rfl
   | false=>unfold Db at h0;rw [if_pos hc] at h0;cases h0
  have hP:=(qs.1 hE).1;have ha:V.heap[E]?=some (.cells #[int i64 0] 40 (0,0)):=(hF.block E hP).trans hE
  have hQ:Below V.heap.size V W1:=⟨hC.os,hC.tape,hC.output,hC.size,λk hk=>by
   by_cases e:k=E
   ·subst e;rw [hH,ha]
   ·exact hC.block k hk e⟩
  have hW:Below V.heap.size V W2:=hQ.trans (hV.mono hQ.size);have o2:∀{b:Nat} {o:Obj},W1.heap[b]?=some o→W2.heap[b]?=some o:=λh=>(hV.block _ (qs.1 h).1).trans h
  have oV:∀{b:Nat} {o:Obj},V.heap[b]?=some o→W2.heap[b]?=some o:=λh=>(hW.block _ (qs.1 h).1).trans h
  have hb:V.heap[B1]?=some (.cells s.cells 30 (0,0)):=(hF.block B1 (qs.1 hB).1).trans hB;exact Nd s x ns ks w V h0 hG hO hM (hS.below hF) (hU.below hF) hAx hY hJ B1 E X TB W2 hW (oV hb) (o2 hX) (o2 hH) hT (Nat.le_trans hQ.size gT) gE
 ·intro h0 W2 hd hf
  intros
  refine NA _ E _ _ W2 rfl hd ⟨?_,hf _ _ hL gE⟩;unfold Dd;rw [if_neg h0]
end
section
open Go Go.RowKit Go.Shelf
theorem Ah{A B:World}{b:Nat}{o:Obj}(h:Below A.heap.size A B)(g:A.heap[b]?=some o):B.heap[b]?=some o:=(h.block b (qs.1 g).1).trans g
theorem Ag{A B C:World}(h:Below A.heap.size A B)(k:Below B.heap.size B C):Below A.heap.size A C:=h.trans (k.mono h.size)
def mv(k:Int)(s:Nm):Mov:=⟨1,k,0,0,0,0,s,0,0,1,1⟩
def S7(r0 u0 z1:Nm):Sc:=⟨[119],0,0,0,0,0,[⟨r0,0,0,0⟩,⟨[98],0,0,0⟩],[],[],[],
 [⟨[98],.cons 2 2 [] (.cons 4 0 u0 .nil [] (.cons 1 0 [] .nil [mv 7 [98],mv 6 []] .nil)) [] .nil⟩,⟨[99],.cons 1 0 [] .nil [mv 8 [97]] (.cons 3 0 [] .nil [] .nil)⟩],
 [⟨[98],[98],0,false⟩,⟨z1,[99],4,true⟩]⟩
structure SX(X:Nat)(x:Ls)(W:World):Prop where
 strip:x.strip=S7 [97] [99] [97]
 at_:x.At W
 ns:NsAt W x.refs [0,1,0,1,0,0,0,0,1,0,0,1]
 heap:W.heap[X]?=some (.cells x.cells 30 (0,0))
end
section
open Go Go.RowKit Go.Shelf Go.Deep
end
section
open Go Go.RowKit
def StM(w:World)(b:Nat):Prop:=∃es clock,w.heap[b]?=some (.map es clock)∧MapKept.Stamped es clock∧∀x∈es.toList,MapKept.IsKey (.int .i64) x.key
theorem StM.of_block{w w':World}{b:Nat}(h:StM w b)(hb:w'.heap[b]?=w.heap[b]?):StM w' b:=by
 obtain ⟨es,c,h1,h2⟩:=h;exact ⟨es,c,hb.trans h1,h2⟩
def DH(ks:List Int):List (Int×Value):=ks.map λk=>(k,.bool true)
def AY(ks:List Int)(k:Int):List Int:=if k∈ks then ks else ks++[k]
theorem Mk(ks:List Int):(DH ks).map (·.1)=ks:=by
 unfold DH;rw [List.map_map];simp [Function.comp_def]
theorem Mj(k:Int):∀ks:List Int,Au (DH ks) k=if k∈ks then some (.bool true) else none
 | []=>by simp [Au,DH]
 | a::r=>by
  have ih:=Mj k r;unfold Au DH at ih ⊢;rw [List.map_cons];by_cases h:a=k
  ·subst h
   rw [List.find?_cons_of_pos (by simp)];simp
  ·rw [List.find?_cons_of_neg (by simpa using h),ih]
   have:(k∈a::r)=(k∈r):=by
    simp only [List.mem_cons,eq_iff_iff];exact ⟨λe=>e.resolve_left (λe=>h e.symm),Or.inr⟩
   simp only [this]
theorem Og(ks:List Int)(k:Int):Bn (DH ks) k (.bool true)=DH (AY ks k):=by
 unfold Bn AY;rw [Mj];by_cases h:k∈ks
 ·rw [if_pos h,if_pos h]
  simp only [Option.isSome_some,if_true];unfold DH;rw [List.map_map];apply List.map_congr_left;intro a _;simp only [Function.comp]
  split<;>rfl
 ·rw [if_neg h,if_neg h]
  simp [DH]
theorem Ml(ks:List Int)(k x:Int):x∈AY ks k↔x∈ks∨x=k:=by
 unfold AY
 split
 ·rename_i h;exact ⟨Or.inl,λe=>e.elim id λe=>e▸h⟩
 ·simp
theorem JX{ks:List Int}(h:ks.Nodup)(k:Int):(AY ks k).Nodup:=by
 unfold AY
 split
 ·exact h
 ·rename_i hk
  rw [List.nodup_append];exact ⟨h,by simp,λa ha b hb=>by simp at hb;subst hb;rintro rfl;exact hk ha⟩
structure SetB(w:World)(b:Nat)(ks:List Int):Prop where
 map_:MapAt kI w b (DH ks)
 stamp:StM w b
 apart:ks.Nodup
theorem SetB.of_block{w w':World}{b:Nat}{ks:List Int}(h:SetB w b ks)(hb:w'.heap[b]?=w.heap[b]?):SetB w' b ks:=⟨h.map_.of_block hb,h.stamp.of_block hb,h.apart⟩
theorem SetB.lt{w:World}{b:Nat}{ks:List Int}(h:SetB w b ks):b<w.heap.size:=h.map_.lt
theorem SetB.below{w w':World}{b n:Nat}{ks:List Int}(h:SetB w b ks)(hb:Below n w w')(hn:b<n):SetB w' b ks:=h.of_block (hb.block _ hn)
theorem StM.new(w:World):StM (w.alloc (.map #[] 0)) w.heap.size:=⟨#[],0,heap_alloc_new w _,MapKept.stamped_empty 0,by simp⟩
theorem SetB.new(w:World):SetB (w.alloc (.map #[] 0)) w.heap.size []:=⟨MapAt.new w,StM.new w,List.nodup_nil⟩
variable {P:Program} {T K E:TypeId}
theorem SetB.put{w:World}{b:Nat}{ks:List Int}(h:SetB w b ks)(hT:P.underlying T=some (.map K E))(hK:P.underlying K=some (.int .i64))(k:Int) :
  ∃W,(Instr.mapUpdate T (.map (some b)) (int i64 k) (.bool true)).run P w=.ok () W∧SetB W b (AY ks k)∧(∀c,c≠b→W.heap[c]?=w.heap[c]?)∧W.heap.size=w.heap.size∧∀n,n≤b→Below n w W:=by
 obtain ⟨o,hA,hM⟩:=Bj (P:=P) Bz hT hK h.map_ (show AT (DH ks) by unfold AT;rw [Mk];exact h.apart) k (.bool true);rw [Og] at hM;obtain ⟨es,c,e1,e2,e3⟩:=h.stamp;obtain ⟨es',c',f1,f2,f3,_⟩:=MapKept.mapUpdate_keeps hT hK e1 e2 e3 (show MapKept.IsKey (.int .i64) (int i64 k) from rfl) hA;refine ⟨_,hA,⟨hM,⟨es',c',f1,f2,f3⟩,JX h.apart k⟩,λc hc=>?_,by simp,λn hn=>Bo w b o hn⟩;simp only [Array.getElem?_setIfInBounds];rw [if_neg (λe=>hc e.symm)]
def LV:Value→Int
 | .int _ n=>n
 | _=>0
def ItB(w:World)(r b:Nat)(ks left:List Int):Prop:=∃es clock seen c0,w.heap[r]?=some (.mapIter (some b) clock seen c0)∧clock≤c0∧w.heap[b]?=some (.map es clock)∧MapKept.Stamped es clock∧es.toList.map (λe=>(e.key,e.val))=ks.map (λk=>(kI k,Value.bool true))∧left=(leftOf es seen).toList.map λe=>LV e.key
theorem Ga{es:List MapEntry}{ks:List Int}(h:es.map (λe=>(e.key,e.val))=ks.map (λk=>(kI k,Value.bool true))){e:MapEntry}(he:e∈es):e.key=int i64 (LV e.key)∧e.val=.bool true∧LV e.key∈ks:=by
 have:(e.key,e.val)∈ks.map (λk=>(kI k,Value.bool true)):=by rw [← h];exact List.mem_map.2 ⟨e,he,rfl⟩
 obtain ⟨k,hk,h2⟩:=List.mem_map.1 this;simp only [Prod.mk.injEq] at h2;rw [← h2.1,← h2.2];exact ⟨rfl,rfl,hk⟩
theorem ItB.ne{w:World}{r b:Nat}{ks left:List Int}(h:ItB w r b ks left):r≠b:=by
 obtain ⟨es,clock,seen,c0,h1,_,h2,_⟩:=h;rintro rfl;rw [h1] at h2;cases h2
theorem ItB.cnt{w:World}{r b:Nat}{ks left:List Int}(h:ItB w r b ks left):w.rangeLeft b r=left.length:=by
 obtain ⟨es,clock,seen,c0,h1,_,h2,_,_,rfl⟩:=h;unfold World.rangeLeft;rw [h1,h2];simp
theorem ItB.sub{w:World}{r b:Nat}{ks left:List Int}(h:ItB w r b ks left):∀x∈left,x∈ks:=by
 obtain ⟨es,clock,seen,c0,h1,_,h2,_,h4,rfl⟩:=h;intro x hx;obtain ⟨e,he,rfl⟩:=List.mem_map.1 hx;exact (Ga h4 (mem_left he).1).2.2
theorem SetB.range{w:World}{b:Nat}{ks:List Int}(h:SetB w b ks)(hT:P.underlying T=some (.map K E)) :
  ∃W,(Instr.range T (.map (some b))).run P w=.ok (.pointer (some ⟨w.heap.size,0,none⟩)) W∧ItB W w.heap.size b ks ks∧Below w.heap.size w W∧W.heap.size=w.heap.size+1:=by
 obtain ⟨es,c,e1,e2,e3⟩:=h.stamp;obtain ⟨es',c',f1,f2⟩:=h.map_;rw [e1] at f1;cases f1;refine ⟨_,run_range_map w T K E b es c hT e1,⟨es,c,#[],c,heap_alloc_new w _,qn _,(((Below.refl w.heap.size w).alloc (qn _) _).block b (SetB.lt h)).trans e1,e2,by rw [f2];unfold DH;rw [List.map_map];rfl,?_⟩,(Below.refl _ _).alloc (qn _) _,by simp⟩;have h0:leftOf es #[]=es:=by unfold leftOf;exact Array.filter_eq_self.2 (by simp)
 rw [h0];have h3:=congrArg (List.map λp:Value×Value=>LV p.1) f2;rw [List.map_map,List.map_map] at h3;unfold DH at h3;rw [List.map_map] at h3;refine Eq.trans ?_ h3.symm
 induction ks with
 | nil=>rfl
 | cons a r ih=>simp [Function.comp_def,kI,LV]
theorem Ca(w:World)(n:Nat):Below n w w.drew:=(Below.refl n w).drew
theorem Mi{w W:World}(hw:W=w∨W=w.drew)(r:Nat)(o:Obj){n:Nat}(hn:n≤r):Below n w { W with heap:=W.heap.setIfInBounds r o }:=by
 have h1:Below n w W:=by rcases hw with rfl|rfl;exact Below.refl _ _;exact Ca _ _
 exact h1.trans (Bo W r o hn)
theorem ItB.next{w:World}{r b:Nat}{ks left:List Int}(h:ItB w r b ks left) :
  (left=[]∧∀ty,(Instr.next (.pointer (some ⟨r,0,none⟩)) false ty).run P w=.ok (.tuple #[.bool false]) w) ∨
  ∃k W left',k∈left∧(∃_:Unit,∀ty,(Instr.next (.pointer (some ⟨r,0,none⟩)) false ty).run P w=.ok (.tuple #[.bool true,int i64 k,.bool true]) W)∧(Instr.entry (.pointer (some ⟨r,0,none⟩))).run P W=.ok (.tuple #[int i64 k,.bool true]) W ∧
   ItB W r b ks left'∧(∀x∈left,x=k∨x∈left')∧left'.length<left.length∧(∀c,c≠r→W.heap[c]?=w.heap[c]?)∧W.heap.size=w.heap.size∧∀n,n≤r→Below n w W:=by
 have hD:=h.ne;obtain ⟨es,clock,seen,c0,h1,hc,h2,h3,h4,rfl⟩:=h;rcases run_next_at (P:=P) w 0 r b clock c0 seen es clock h1 h2 h3.1 hc with ⟨h0,hA⟩|⟨e,he,w1,hw,hA⟩
 ·left
  refine ⟨?_,λ_=>hA⟩;rw [Array.eq_empty_of_size_eq_zero h0];rfl
 ·right
  have hm:=mem_left he;obtain ⟨k1,k2,k3⟩:=Ga h4 hm.1;have hh:w1.heap=w.heap:=by rcases hw with rfl|rfl<;>rfl
  have hE:r<w.heap.size:=(qs.1 h1).1
  have gr:(ChangeMaps.setBlock w1 r (.mapIter (some b) clock (seen.push e.born) clock)).heap[r]?=some (.mapIter (some b) clock (seen.push e.born) clock):=by
   unfold ChangeMaps.setBlock;simp only [Array.getElem?_setIfInBounds,if_true];rw [if_pos (by rw [hh];exact hE)]
  have go:∀c,c≠r→(ChangeMaps.setBlock w1 r (.mapIter (some b) clock (seen.push e.born) clock)).heap[c]?=w.heap[c]?:=λc hF=>by
   unfold ChangeMaps.setBlock;simp only [Array.getElem?_setIfInBounds];rw [if_neg (λe=>hF e.symm),hh]
  have gb:=(go b (λe=>hD e.symm)).trans h2;have hB:=run_entry_at (P:=P) (ChangeMaps.setBlock w1 r (.mapIter (some b) clock (seen.push e.born) clock)) r b clock seen es clock e gr gb hm.1 h3.2.1;rw [k1,k2] at hA hB;refine ⟨LV e.key,_,(leftOf es (seen.push e.born)).toList.map λe=>LV e.key,List.mem_map.2 ⟨e,he,rfl⟩,⟨(),λ_=>hA⟩,hB,⟨es,clock,_,clock,gr,qn _,gb,h3,h4,rfl⟩,λx hx=>?_,?_,go,?_,λn hn=>Mi hw r _ hn⟩
  ·obtain ⟨y,hy,rfl⟩:=List.mem_map.1 hx
   by_cases hb:y.born=e.born
   ·left
    have hn:=h3.2.1;have hG:=(mem_left hy).1;have f1:=find_born e es.toList hn hm.1;have f2:=find_born y es.toList hn hG;rw [hb] at f2;rw [f1] at f2;injection f2 with f2;rw [f2]
   ·right
    refine List.mem_map.2 ⟨y,?_,rfl⟩;have hC:=mem_left hy;unfold leftOf;rw [Array.mem_toList_iff,Array.mem_filter];refine ⟨Array.mem_toList_iff.1 hC.1,?_⟩;rw [contains_push,hC.2];simpa using hb
  ·simpa using left_shrinks es seen e he
  ·unfold ChangeMaps.setBlock
   simp [hh]
end
section
open Go Go.RowKit Go.Shelf Go.Deep
end
section
open Go Go.RowKit Go.Deep
end
section
open Go Go.RowKit
theorem Di{w:World}{b:Nat}:∀{o:Nat} {ps:List Ph} {i:Nat} {p:Ph},Bk w b o ps→ps[i]?=some p→p.Its w
 | _,[],_,_,_,h=>by cases h
 | _,_::_,0,_,⟨⟨_,_,h3⟩,_⟩,h=>by cases h;exact h3
 | _,_::r,i+1,_,⟨_,h⟩,hi=>Di (ps:=r) (i:=i) h (by simpa using hi)
end
section
open Go Go.RowKit Go.Deep
section
variable {α:Type} {enc:α→List Value} {k:Nat}
theorem Kz(hk:∀x,(enc x).length=k):∀{xs:List α} {j:Nat} {u:Value},(xs.flatMap enc)[j]?=some u→∃i x r,xs[i]?=some x∧(enc x)[r]?=some u∧j=i*k+r∧r<k
 | [],j,u,h=>by simp at h
 | x::xs,j,u,h=>by
  simp only [List.flatMap_cons] at h;rcases Nat.lt_or_ge j k with hj|hj
  ·rw [List.getElem?_append_left (by rw [hk];exact hj)] at h
   exact ⟨0,x,j,rfl,h,by omega,hj⟩
  ·rw [List.getElem?_append_right (by rw [hk];exact hj),hk] at h
   obtain ⟨i,y,r,h1,h2,h3,h4⟩:=Kz hk h;exact ⟨i+1,y,r,by simpa using h1,h2,by rw [Nat.add_mul];omega,h4⟩
theorem KA(hk:∀x,(enc x).length=k):∀{xs:List α} {i r:Nat} {x:α} {u:Value},xs[i]?=some x→(enc x)[r]?=some u→(xs.flatMap enc)[i*k+r]?=some u
 | [],i,r,x,u,h,_=>by cases h
 | y::xs,0,r,x,u,h,h2=>by
  cases h;have hr:=(ql.1 h2).1;simp only [List.flatMap_cons,Nat.zero_mul,Nat.zero_add];rw [List.getElem?_append_left hr];exact h2
 | y::xs,i+1,r,x,u,h,h2=>by
  have:=KA hk (xs:=xs) (i:=i) (by simpa using h) h2;simp only [List.flatMap_cons];rw [List.getElem?_append_right (by rw [hk,Nat.add_mul];omega),hk];rw [show (i+1)*k+r-k=i*k+r by rw [Nat.add_mul];omega];exact this
theorem Ei(hk:∀x,(enc x).length=k){w:World}{b o:Nat}{xs:List α}:AtRow enc k w b o xs↔∀j u,(xs.flatMap enc)[j]?=some u→w.cell? ⟨b,o+j,none⟩=some u:=by
 constructor
 ·intro h j u hj
  obtain ⟨i,x,r,h1,h2,rfl,_⟩:=Kz hk hj;have:=h i x h1 r u h2;rw [← Nat.add_assoc];exact this
 ·intro h i x hi r u hr
  have:=h _ _ (KA hk hi hr);rw [← Nat.add_assoc] at this;exact this
end
theorem Es{w:World}{B e k:Nat}{α:Type}{enc:α→List Value}(hk:∀x,(enc x).length=k){ao:Option Addr}{c:Nat}{xs:List α}(hm:xs.length≤maxLen)(h:w.ownsRow B e k (.slice ao xs.length c) xs.length (xs.flatMap enc)):IsRow enc k w (.slice ao xs.length c) xs:=by
 refine ⟨ao,c,rfl,hm,?_⟩;rcases h.2 with ⟨e,e2⟩|⟨g,cap,cur,e,h2,h3,_⟩
 ·exact Or.inl (List.length_eq_zero_iff.1 e2)
 ·cases e
  refine Or.inr ⟨g,0,rfl,(Ei hk).2 λj u hj=>?_,(qs.1 h3).1⟩;have:=h.cells (g:=g) rfl j u hj;rw [Bc] at this;exact this
end
section
open Go Go.RowKit Go.Deep
section
variable {α:Type} {enc:α→List Value} {k:Nat}
end
end
section
open Go Go.RowKit Go.Deep
theorem Ae{P:Program}{x y:Code}{Q:Exit→Act→World→Prop}{a:Act}{w:World}(h:∀K:Act→World→Prop,(∀a w,y.wp P Q a w→K a w)→x.wp P (Exit.then K Q) a w):(Code.seq x y).wp P Q a w:=wp_seq (h _ λ_ _ h=>h)
end
end Go.Proofs.YtbkemlgfdklpfaaGreatDoor
