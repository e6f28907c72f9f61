/- Contracts and plain laws on the way to the statement: part 33. -/
import Derived.Test.YtbkemlgfdklpfaaGreatDoorV32
import Derived.BigRegion
import Derived.BigCall
import Derived.BigGuard
import Derived.Deep.RegionWith
import Derived.Deep.RegionHeld3
import Derived.Deep.QuietTactic
import Derived.BigQuiet
import Derived.KernelRfl
import Derived.StillTailTactics
import Derived.Laws.StructEq
import Derived.IntWalk
import Derived.Test.YtbkemlgfdklpfaaGreatDoorV4
set_option autoImplicit true
set_option relaxedAutoImplicit true
set_option linter.unusedVariables false
set_option linter.unusedSimpArgs false
set_option maxRecDepth 100000
set_option maxHeartbeats 16000000
namespace Go.Proofs.YtbkemlgfdklpfaaGreatDoor
open Go.Value (int)
open Go.IntKind (i64)
section
open Go Go.RowKit
theorem Ol{kss:List (List Int)}{i nn:Int}{j:Nat}{g:Int→Option Int}{x v:Int}(h:EL kss i nn j g x=some v):g x=some v∨v=nn:=by
 unfold EL at h
 split at h
 ·exact Or.inl h
 ·split at h
  ·unfold Gr at h
   split at h
   ·right;cases h;rfl
   ·exact Or.inl h
  ·exact Or.inl h
theorem Kw{kss:List (List Int)}{i nn:Int}{g:Int→Option Int}{x v:Int}:∀{j:Nat},Ew kss i nn g j x=some v→g x=some v∨v=nn
 | 0,h=>Or.inl h
 | _+1,h=>(Ol h).elim Kw Or.inr
theorem Eb{kss:List (List Int)}{i x v:Int}:∀{m:Nat},AR kss i m x=some v→1≤v∧v≤m
 | 0,h=>by cases h
 | m+1,h=>by
  rcases Kw h with h|h
  ·have:=Eb h;omega
  ·omega
def Dy(kss:List (List Int))(i:Nat):Bool:=(AR kss i kss.length i).isSome
def BG(kss:List (List Int)):List Int:=match (List.range kss.length).find? (Dy kss) with
 | none=>[]
 | some i=>(i:Int)::E3 kss (AR kss i kss.length) kss.length (((AR kss i kss.length i).getD 1-1).toNat) i
theorem Md{kss:List (List Int)}(h:∀i,i<kss.length→Dy kss i=false):BG kss=[]:=by
 unfold BG
 have:(List.range kss.length).find? (Dy kss)=none:=by
  rw [List.find?_eq_none];intro i hi;rw [h i (by simpa using hi)];simp
 rw [this]
theorem Me{kss:List (List Int)}{i:Nat}(hi:i<kss.length)(h:∀j,j<i→Dy kss j=false){d:Nat}(hy:AR kss i kss.length i=some ((d+1:Nat):Int)):BG kss=(i:Int)::E3 kss (AR kss i kss.length) kss.length d i:=by
 unfold BG
 have:(List.range kss.length).find? (Dy kss)=some i:=by
  rw [List.find?_range_eq_some];exact ⟨by unfold Dy;rw [hy];rfl,by simpa using hi,λj hj=>by simpa using h j hj⟩
 rw [this];simp only [hy,Option.getD_some];rw [show (((d+1:Nat):Int)-1).toNat=d by omega]
def Lo(W:World)(v:Value)(l:List Int):Prop:=(l=[]∧v=.slice none 0 0)∨∃g cap,v=.slice (some ⟨g,0,none⟩) l.length cap∧l≠[]∧l.length≤cap∧cap≤maxLen∧∀(j:Nat) (x:Int),l[j]?=some x→W.cell? ⟨g,j,none⟩=some (int i64 x)
theorem Ry{w:World}{B:Nat}{v:Value}{l:List Int}(h:w.ownsRow B 3 1 v l.length (IX l))(hl:l≠[]):Lo w v l:=by
 have hp:l.length≠0:=λe=>hl (List.length_eq_zero_iff.1 e)
 have hc:=KO h hp;rcases h.2 with ⟨rfl,h0⟩|⟨g,cap,cur,rfl,_,_,h3,h4,_⟩
 ·exact absurd h0 hp
 ·obtain ⟨g',cap',e,hA⟩:=hc
  cases e;exact Or.inr ⟨g,cap,rfl,hl,h3,h4,λj x hj=>hA j _ (by unfold IX;rw [List.getElem?_map,hj];rfl)⟩
theorem QG:Ab 3 bodyB=.seq (bBn 3) (Ab 4 bodyB):=rfl
theorem Mw:Ab 4 bodyB=.seq (bBn 4) (Ab 5 bodyB):=rfl
theorem QH:Ab 5 bodyB=.seq (bBn 5) (Ab 6 bodyB):=rfl
theorem QI:Ab 6 bodyB=.seq (bBn 6) (Ab 7 bodyB):=rfl
theorem FarW.start{w W W1:World}{N G n:Nat}{kss:List (List Int)}{ms:List Nat}(h:NextW w W N G n kss ms)(hl:ms.length=n)(hk:kss.length=n)(h1:W.alloc (.map #[] 0)=W1):FarW w W1 N G n W.heap.size kss ms (λ_=>none):=by
 have b1:Below W.heap.size W W1:=by rw [← h1];exact (Below.refl _ _).alloc (qn _) _
 have hN:=(qs.1 h.box).1;have hG:=(qs.1 h.row).1;exact ⟨h.keep b1,hl,hk,by rw [← h1];exact FarM.new W,h.below.size,λhm=>by have:=h.lts hk hm;omega,by omega,by omega⟩
theorem RL(i N G n:Nat)(kss:List (List Int))(ms:List Nat)(w W:World)(hW:NextW w W N G n kss ms)(hl:ms.length=n)(hJ:kss.length=n)(hn:n≤999)(hi:i<n)(Q:Exit→Act→World→Prop)
  (hN:AR kss i n i=none→∀(x2 x6 x7 x8 x9 bO bP bQ bR bS bT bU bV bW bY bZ ca cb cc cd ce cf cg ch ci cj ck cm cn co cp cq cr cs ct cu cv cw cx cy cz cA cB cC cD cE cF cG cH cI cJ cK cL cM cN cO cP cQ cR cS cT cU cV cW cX cY cZ da db dc dd de df dg dh di dj dk dl dm dn dp dq dr ds dt du dv dw dx dy dz dA dB dC dD dE dF dG dH dI dJ dK dL dM dN dO dP dQ dR dS dT dU dV dW dX dY dZ fa fb:Value) (V:World),NextW w V N G n kss ms→Q (.exit 3) { tmps:=#[e0,e1,x2,.pointer (some ⟨N,0,none⟩),e4,e5,x6,x7,x8,x9,bO,bP,bQ,bR,bS,bT,bU,bV,bW,bY,ek,el,em,en,eo,ep,eq,er,es,et,eu,ev,ew,ex,ey,ez,eA,eB,eC,eD,eE,eF,eG,int i64 i,eH,bZ,ca,cb,cc,cd,ce,cf,cg,ch,ci,cj,ck,cm,cn,co,cp,cq,cr,cs,ct,cu,cv,cw,cx,cy,cz,cA,cB,cC,cD,cE,cF,cG,cH,cI,cJ,cK,cL,cM,cN,cO,cP,cQ,cR,cS,cT,cU,cV,cW,cX,cY,cZ,da,db,dc,dd,de,df,dg,dh,di,dj,dk,dl,dm,dn,dp,dq,dr,ds,dt,du,dv,dw,dx,dy,dz,dA,dB,dC,dD,dE,dF,dG,dH,dI,dJ,dK,dL,dM,dN,dO,dP,dQ,dR,dS,dT,dU,dV,dW,dX,dY,dZ,fa,fb,bN],defers:=[] } V)
  (hR:∀d:Nat,AR kss i n i=some ((d+1:Nat):Int)→∀(v':Value) (x6 x7 x8 x9 bO bP bQ bR bS bT bU bV bW bY bZ ca cb cc cd ce cf cg ch ci cj ck cm cn co cp cq cr cs ct cu cv cw cx cy cz cA cB cC cD cE cF cG cH cI cJ cK cL cM cN cO cP cQ cR cS cT cU cV cW cX cY cZ da db dc dd de df dg dh di dj dk dl dm dn dp dq dr ds dt du dv dw dx dy dz dA dB dC dD dE dF dG dH dI dJ dK dL dM dN dO dP dQ dR dS dT dU dV dW dX dY dZ fa fb:Value) (V:World),Below w.heap.size w V→Lo V v' ((i:Int)::E3 kss (AR kss i n) n d i)→Q .ret { tmps:=#[e0,e1,v',.pointer (some ⟨N,0,none⟩),e4,e5,x6,x7,x8,x9,bO,bP,bQ,bR,bS,bT,bU,bV,bW,bY,ek,el,em,en,eo,ep,eq,er,es,et,eu,ev,ew,ex,ey,ez,eA,eB,eC,eD,eE,eF,eG,int i64 i,eH,bZ,ca,cb,cc,cd,ce,cf,cg,ch,ci,cj,ck,cm,cn,co,cp,cq,cr,cs,ct,cu,cv,cw,cx,cy,cz,cA,cB,cC,cD,cE,cF,cG,cH,cI,cJ,cK,cL,cM,cN,cO,cP,cQ,cR,cS,cT,cU,cV,cW,cX,cY,cZ,da,db,dc,dd,de,df,dg,dh,di,dj,dk,dl,dm,dn,dp,dq,dr,ds,dt,du,dv,dw,dx,dy,dz,dA,dB,dC,dD,dE,dF,dG,dH,dI,dJ,dK,dL,dM,dN,dO,dP,dQ,dR,dS,dT,dU,dV,dW,dX,dY,dZ,fa,fb,bN],defers:=[] } V) :
  bodyB.wp Tryz.prog Q { tmps:=#[e0,e1,e2,.pointer (some ⟨N,0,none⟩),e4,e5,e6,e7,e8,e9,ea,eb,ec,ed,ee,ef,eg,eh,ei,ej,ek,el,em,en,eo,ep,eq,er,es,et,eu,ev,ew,ex,ey,ez,eA,eB,eC,eD,eE,eF,eG,int i64 i,eH,eI,eJ,eK,eL,eM,eN,eO,eP,eQ,eR,eS,eT,eU,eV,eW,eX,eY,eZ,aa,ab,ac,ae,af,ag,ah,ai,aj,ak,al,am,an,ao,ap,aq,ar,au,av,aw,ax,ay,az,aA,aB,aC,aD,aE,aF,aG,aH,aI,aJ,aK,aL,aM,aN,aO,aP,aQ,aR,aS,aT,aU,aV,aW,aX,aY,aZ,ba,bb,bc,bd,be,bf,bg,bh,bi,bj,bk,bl,bm,bn,bo,bp,bq,br,bs,bt,bu,bv,bw,bx,bz,bA,bB,bC,bD,bE,bF,bG,bH,bI,bJ,bK,bL,bM,bN],defers:=[] } W:=by
 obtain ⟨W1,hI⟩:∃W1,W.alloc (.map #[] 0)=W1:=⟨_,rfl⟩;have hF:=FarW.start hW hl hJ hI;have HN:=qh hN;have HR:=qh hR;have HF:=qh hF;clear hN hR hF hW;have hL:=@run_makeMap Tryz.prog;generalize hM:W.heap.size=F at *;rw [QD];refine Ae (λK hK=>?_);have HK:=qh hK;clear hK
 conv=>arg 2;whnf
 go_wp2_with fail;refine HK.out _ _ ?_;clear HK K;rw [QE];refine Ae (λK hK=>?_);have HK:=qh hK;clear hK
 conv=>arg 2;whnf
 go_wp2_with fail;refine HK.out _ _ ?_;clear HK K hI hL hM;rw [QF];refine Ae (λK hK=>?_);have HK:=qh hK;clear hK;refine TH i N G n F kss ms w W1 HF.out (by omega) _ ?_
 intros
 rename_i V hV;refine HK.out _ _ ?_;clear HK K;have hD:=hV.far.lookup i;have HV:=qh hV;clear hV;rw [QG];refine Ae (λK hK=>?_);have HK:=qh hK;clear hK
 cases hA:AR kss i n i with
 | none =>
  rw [hA] at hD;have hE:=qh hA;clear hA
  conv=>arg 2;whnf
  go_wp2_with fail;refine HK.out _ _ ?_;clear HK K hD;rw [Mw];refine Ae (λK hK=>?_);have HK:=qh hK;clear hK
  conv=>arg 2;whnf
  go_wp2_with fail;exact HN.out hE.out _ _ _ _ _ _ _ _ _ _ _ _ _ _ _ _ _ _ _ _ _ _ _ _ _ _ _ _ _ _ _ _ _ _ _ _ _ _ _ _ _ _ _ _ _ _ _ _ _ _ _ _ _ _ _ _ _ _ _ _ _ _ _ _ _ _ _ _ _ _ _ _ _ _ _ _ _ _ _ _ _ _ _ _ _ _ _ _ _ _ _ _ _ _ _ _ _ _ _ _ _ _ _ _ _ _ _ _ _ _ _ _ _ _ _ _ _ _ _ _ _ HV.out.next
 | some v0 =>
  have hP:=Eb hA;obtain ⟨d,rfl⟩:∃d:Nat,v0=((d+1:Nat):Int):=⟨(v0-1).toNat,by omega⟩;rw [hA] at hD;have hE:=qh hA;clear hA
  conv=>arg 2;whnf
  go_wp2_with fail;refine HK.out _ _ ?_;clear HK K hD;rw [Mw];refine Ae (λK hK=>?_);have HK:=qh hK;clear hK
  conv=>arg 2;whnf
  go_wp2_with fail;refine HK.out _ _ ?_;clear HK K;rw [QH];refine Ae (λK hK=>?_);have HK:=qh hK;clear hK;obtain ⟨W2,hG⟩:∃W2,V.alloc (.cells #[int i64 (i:Int)] 3)=W2:=⟨_,rfl⟩
  have hB:WayW w V W2 N G n F kss ms (AR kss i n) (.slice (some ⟨V.heap.size,0,none⟩) 1 1) [(i:Int)]:=by
   refine ⟨HV.out,by rw [← hG];exact (Below.refl _ _).alloc (qn _) _,?_,λx hx=>by simp at hx;subst hx;omega⟩;rw [← hG];exact World.ownsRow_lit V #[int i64 (i:Int)] 1 (qn _) (by unfold maxLen;omega) rfl
  have HY:=qh hB;clear hB
  conv=>arg 2;whnf
  go_wp2_with fail;refine HK.out _ _ ?_;clear HK K hG;rw [QI];refine Ae (λK hK=>?_);have HK:=qh hK;clear hK;refine TK i d N G n F kss ms (AR kss i n) _ w V W2 HY.out (by omega) (by omega) _ ?_
  intros
  rename_i V2 hH;refine HK.out _ _ ?_;clear HK K;have hb:=Ag HV.out.next.below (hH.below.mono (qn _))
  have hC:=Ry hH.own (by simp);have HB:=qh hb;have hO:=qh hC;clear hH hb hC
  conv=>arg 2;whnf
  go_wp2_with fail;exact HR.out d hE.out _ _ _ _ _ _ _ _ _ _ _ _ _ _ _ _ _ _ _ _ _ _ _ _ _ _ _ _ _ _ _ _ _ _ _ _ _ _ _ _ _ _ _ _ _ _ _ _ _ _ _ _ _ _ _ _ _ _ _ _ _ _ _ _ _ _ _ _ _ _ _ _ _ _ _ _ _ _ _ _ _ _ _ _ _ _ _ _ _ _ _ _ _ _ _ _ _ _ _ _ _ _ _ _ _ _ _ _ _ _ _ _ _ _ _ _ _ _ _ _ _ HB.out hO.out
def Su(kss:List (List Int))(w:World)(e:Ending)(w':World):Prop:=∃v,e=.returned v∧Below w.heap.size w w'∧Lo w' v (BG kss)
theorem Vs:Ci=.seq OW (Ab 1 Ci):=rfl
theorem UO(B N G n:Nat)(kss:List (List Int))(ms:List Nat)(w0 w W:World)(hD:Below w0.heap.size w0 w)(hW:NextW w W N G n kss ms)(hl:ms.length=n)(hB:kss.length=n)(hn:n≤999):
  (Ab 3 Ci).wp Tryz.prog (bodyPost Tryz.prog Tryz.f59 (Su kss w0)) { tmps:=#[e0,.pointer (some ⟨B,0,none⟩),.slice none 0 0,.pointer (some ⟨N,0,none⟩),e4,e5,e6,e7,e8,e9,ea,eb,ec,ed,ee,ef,eg,eh,ei,ej,ek,el,em,en,eo,ep,eq,er,es,et,eu,ev,ew,ex,ey,ez,eA,eB,eC,eD,eE,eF,eG,eH,eI,eJ,eK,eL,eM,eN,eO,eP,eQ,eR,eS,eT,eU,eV,eW,eX,eY,eZ,aa,ab,ac,ae,af,ag,ah,ai,aj,ak,al,am,an,ao,ap,aq,ar,au,av,aw,ax,ay,az,aA,aB,aC,aD,aE,aF,aG,aH,aI,aJ,aK,aL,aM,aN,aO,aP,aQ,aR,aS,aT,aU,aV,aW,aX,aY,aZ,ba,bb,bc,bd,be,bf,bg,bh,bi,bj,bk,bl,bm,bn,bo,bp,bq,br,bs,bt,bu,bv,bw,bx,bz,bA,bB,bC,bD,bE,bF,bG,bH,bI,bJ,bK,bL,bM,bN,bO],defers:=[] } W:=by
 have y3:=Aa hW.box 0 rfl;have HW:=qh hW;have hE:=qh hD;clear hW hD;rw [RP];refine Ae (λK hK=>?_);have HK:=qh hK;clear hK
 conv=>arg 2;whnf
 go_wp2_with fail;go_loopw [43] (λiv wr=>∃i:Nat,iv=int i64 i∧i≤n∧Hid (∀j,j<i→Dy kss j=false)∧Hid (NextW w wr N G n kss ms)) (λiv _=>n+1-(intOf iv).toNat)
 case atStart=>exact ⟨0,rfl,Nat.zero_le _,qh (λj hj=>by omega),HW⟩
 case round =>
  obtain ⟨i,rfl,hQ,hC,hF⟩:=hrel;by_cases hN:i<n
  ·have hi:(i:Int)<(n:Int):=by omega
   refine Ae (λK1 hK=>?_);have hG:=qh hK;clear hK;go_wp2_with fail;refine hG.out _ _ ?_;clear hG K1;refine Ae (λK2 hK=>?_);have hH:=qh hK;clear hK;go_wp2_with fail;refine hH.out _ _ ?_;clear hH K2;refine Ae (λK3 hK=>?_);have hI:=qh hK;clear hK;refine wp_block ?_;change Code.wp Tryz.prog bodyB _ _ _;refine RL i N G n kss ms w wr hF.out hl hB hn hN _ (λhJ=>?_) (λd hL=>?_)
   ·intros
    rename_i V hV;refine hI.out _ _ ?_;have HV:=qh hV;have hM:Dy kss i=false:=by unfold Dy;rw [hB,hJ];rfl
    have hO:=qh hM;clear hV hI K3 hJ hM;go_wp2_with fail;go_roundw
    case rel=>exact ⟨i+1,by go_num,by omega,qh (λj hj=>by rcases Nat.lt_or_ge j i with h|h;exact hC.out j h;rw [show j=i by omega];exact hO.out),HV⟩
    case measure=>simp [intOf];omega
   ·intros
    rename_i v' _ _ _ _ _ _ _ _ _ _ _ _ _ _ _ _ _ _ _ _ _ _ _ _ _ _ _ _ _ _ _ _ _ _ _ _ _ _ _ _ _ _ _ _ _ _ _ _ _ _ _ _ _ _ _ _ _ _ _ _ _ _ _ _ _ _ _ _ _ _ _ _ _ _ _ _ _ _ _ _ _ _ _ _ _ _ _ _ _ _ _ _ _ _ _ _ _ _ _ _ _ _ _ _ _ _ _ _ _ _ _ _ _ _ _ _ _ _ _ V hP hA;rw [← hB] at hL hA;have hm:=Me (by omega) hC.out hL;rw [← hm] at hA;refine bodyPost_ret (v:=v') ?_ rfl ⟨v',rfl,Ag hE.out hP,hA⟩;simp [results,Tryz.results59,go_sem]
  ·have:i=n:=by omega
   subst this;have hz:¬(i:Int)<(i:Int):=by omega
   have hm:BG kss=[]:=Md (λj hj=>hC.out j (by omega));have HM:=qh hm;clear hm;go_wp2_with fail;refine HK.out _ _ ?_
   conv=>arg 2;whnf
   go_wp2_with fail;go_ret;exact ⟨_,rfl,Ag hE.out hF.out.below,Or.inl ⟨HM.out,rfl⟩⟩
theorem Qc(s:Ls)(f:Nm→Int)(w:World)(hA:s.At w)(hU:NumAt f w (Ar s.phrases))(hn:s.phrases.length≤999):Calls Tryz.prog 59 #[s.val] w (Su (s.nexts f) w):=by
 obtain ⟨W,hW,hB,hE⟩:∃W,w.alloc (.cells s.cells 30)=W∧W.heap[w.heap.size]?=some (.cells s.cells 30 (0,0))∧Below w.heap.size w W:=⟨_,rfl,heap_alloc_new w _,(Below.refl _ w).alloc (qn _) _⟩;have hS:RgS s f w.heap.size W:=⟨hA.below hE,hB,hU.below hE⟩;have y9:W.cell? ⟨w.heap.size,10,none⟩=some (.slice s.fa s.phrases.length s.fc):=Aa hB 10 rfl;have hG:(s.nexts f).length=s.phrases.length:=by simp [Ls.nexts]
 obtain ⟨n,hC⟩:∃n,s.phrases.length=n:=⟨_,rfl⟩;obtain ⟨W1,hH,gW1,bW1,sW1⟩:=Af W (Array.replicate n (.map none)) 158;obtain ⟨W2,hF,gW2,bW2,sW2⟩:=Af W1 #[.slice (some ⟨W.heap.size,0,none⟩) n n] 157;have hI:=Ag bW1 bW2
 have hJ:NextW W W2 W1.heap.size W.heap.size n (s.nexts f) []:=by
  refine ⟨hI,by omega,qn _,gW2,?_,Nat.zero_le _,by simp,by simp,List.nodup_nil⟩;rw [← Od];exact Ah bW2 gW1
 have hD:=NG n (by omega) W;rw [hH] at hD;have hv:s.val=.agg s.cells:=rfl;rw [hv];have HS:=qh hS;have hO:=qh hJ;have hP:=qh hG;have hQ:=qh hC;have hR:=qh hE;have hL:=qh hF;have hM:=qh hD;rw [hC] at y9;have hN:=qh y9;unfold Ls.cells at hW ⊢;rw [hC] at hW hn ⊢;clear hA hU hS hJ hG hv hB hH gW1 bW1 gW2 bW2 hI hC hE hF hD y9 sW2;go_enter Tryz.func59,Tryz.ntmps59;change Code.wp Tryz.prog Ci _ _ _;rw [Vs];refine Ae (λK hK=>?_);have HK:=qh hK;clear hK
 conv=>arg 2;whnf
 go_wp2_with fail;refine HK.out _ _ ?_;clear HK K hW;have y9:=hN.out;have hD:=hM.out;have hF:=hL.out;rw [RN];refine Ae (λK hK=>?_);have HK:=qh hK;clear hK
 conv=>arg 2;whnf
 go_wp2_with fail;rw [← sW1];refine HK.out _ _ ?_;clear HK K hD hF y9 hL hM hN;have hC:=hQ.out;subst hC;rw [RO];refine Ae (λK hK=>?_);have HK:=qh hK;clear hK;refine UN s f w.heap.size W1.heap.size W.heap.size W W2 HS.out (by omega) hO.out _ ?_;intro ms x4 x5 x6 x7 x8 x9 x10 x11 x12 x13 x14 x15 x16 x17 x18 x19 x20 x21 x22 x23 x24 x25 x26 x27 x28 x29 x30 x31 x32 x33 x34 x35 x36 x37 x38 x39 x40 x41 x42 x43 x44 x45 x46 x47 x48 x49 x50 x51 x52 x53 x54 x55 x56 x57 x58 x59 x60 x61 x62 x63 x64 x65 x66 x67 x68 x69 x70 x71 x72 x73 x74 x75 x76 x77 x78 x79 x80 x81 x82 x83 x84 x85 x86 x87 x88 x89 x90 x91 x92 x93 x94 x95 x96 x97 x98 x99 x100 x101 x102 x103 x104 x105 x106 x107 x108 x109 x110 x111 x112 x113 x114 x115 x116 x117 x118 x119 x120 x121 x122 x123 x124 x125 x126 x127 x128 x129 x130 x131 x132 x133 x134 x135 x136 x137 x138 x139 x140 x141 x142 x143 x144 x145 x146 x147 x148 x149 x150 V hV hT;refine HK.out _ _ ?_;clear HK K;exact UO w.heap.size W1.heap.size W.heap.size s.phrases.length (s.nexts f) ms w W V hR.out hV hT hP.out hn
def Its.sumF(f:Nm→Int)(F:Int→Int):Its→Int→Int
 | .nil,n=>n
 | .cons k nn un its _ r,n=>r.sumF f F (min (n+(if k=1 then 1 else if k=2 then nn*its.sumF f F 0 else if k=3 then its.sumF f F 0 else if k=4 then F (f un) else 0)) 4097)
theorem Its.exB_parts{k n:Int}{un:Nm}{its:Its}{ms:List Mov}{r:Its}(h:(Its.cons k n un its ms r).exB=true):Ex k n=true∧its.exB=true∧r.exB=true:=by
 simp only [Its.exB,Bool.and_eq_true] at h;exact ⟨h.1,h.2.2.2.1.2,h.2.2.2.2⟩
theorem Fm{n:Int}(h:Ex 2 n=true):1≤n∧n≤64:=by
 unfold Ex inB at h;simp at h;omega
theorem Its.sumF_bound(f:Nm→Int)(F:Int→Int):∀(T:Its) (n:Int),T.exB=true→(∀u∈T.uses f,0≤F u∧F u≤4097)→0≤n→n≤4097→0≤T.sumF f F n∧T.sumF f F n≤4097
 | .nil,n,_,_,h0,h1=>⟨h0,h1⟩
 | .cons k nn un its ms r,n,hx,hu,h0,h1=>by
  obtain ⟨hn,hi,hr⟩:=Its.exB_parts hx;have hA:=its.sumF_bound f F 0 hi (λu h=>hu u (by simp [Its.uses,h])) (by omega) (by omega);have hF:k=4→0≤F (f un):=λhk=>(hu (f un) (by simp [Its.uses,hk])).1
  unfold Its.sumF
  have hv:0≤(if k=1 then 1 else if k=2 then nn*its.sumF f F 0 else if k=3 then its.sumF f F 0 else if k=4 then F (f un) else 0):=by
   split
   ·omega
   ·split
    ·rename_i h2
     subst h2;exact Int.mul_nonneg (by have:=Fm hn;omega) hA.1
    ·split
     ·exact hA.1
     ·split
      ·rename_i h4;exact hF h4
      ·omega
  exact r.sumF_bound f F _ hr (λu h=>hu u (by simp [Its.uses,h])) (by omega) (by omega)
structure LenW(W:World)(s:Ls)(f:Nm→Int)(B KB M SB PB:Nat)(len:Int→Int):Prop where
 sc:∃w0,RgS s f B w0∧Below w0.heap.size w0 W∧w0.heap.size≤M
 kb:W.heap[KB]?=some (.cells #[.map (some M)] 161 (0,0))
 sb:W.heap[SB]?=some (.cells #[.func (.func 94) #[] #[.pointer (some ⟨SB,0,none⟩),.pointer (some ⟨PB,0,none⟩)]] 128 (0,0))
 pb:W.heap[PB]?=some (.cells #[.func (.func 95) #[] #[.pointer (some ⟨KB,0,none⟩),.pointer (some ⟨SB,0,none⟩),.pointer (some ⟨B,0,none⟩)]] 118 (0,0))
 known:∃g,FarM W M g∧∀x v,g x=some v→v=len x
theorem LenW.score{W:World}{s:Ls}{f:Nm→Int}{B KB M SB PB:Nat}{len:Int→Int}(h:LenW W s f B KB M SB PB len):RgS s f B W:=by
 obtain ⟨w0,h1,h2,_⟩:=h.sc;exact h1.below h2
theorem FarM.isMap{W:World}{F:Nat}{g:Int→Option Int}(h:FarM W F g):ED W F:=by
 obtain ⟨kvs,h1,_⟩:=h;obtain ⟨es,c,h2,_⟩:=h1;exact ⟨es,c,h2⟩
theorem LenW.isMap{W:World}{s:Ls}{f:Nm→Int}{B KB M SB PB:Nat}{len:Int→Int}(h:LenW W s f B KB M SB PB len):ED W M:=by
 obtain ⟨g,h1,_⟩:=h.known;exact h1.isMap
theorem LenW.below{W V:World}{s:Ls}{f:Nm→Int}{B KB M SB PB:Nat}{len:Int→Int}(h:LenW W s f B KB M SB PB len)(hb:Below W.heap.size W V):LenW V s f B KB M SB PB len:=by
 obtain ⟨g,h1,h2⟩:=h.known;obtain ⟨w0,a1,a2,a3⟩:=h.sc;exact ⟨⟨w0,a1,Ag a2 hb,a3⟩,Ah hb h.kb,Ah hb h.sb,Ah hb h.pb,⟨g,h1.of_block (hb.block M h1.lt),h2⟩⟩
theorem Dq{w w':World}{m:Nat}(hb:Below w.heap.size w w'):w.grownBy w' (some m):=⟨hb.os,hb.tape,hb.output,hb.size,λk hk _=>hb.block k hk⟩
def Jr(s:Ls)(f:Nm→Int)(B KB M SB PB:Nat)(len:Int→Int)(v:Int)(W:World)(e:Ending)(W':World):Prop:=e=.returned (int i64 v)∧LenW W' s f B KB M SB PB len∧W.grownBy W' (some M)
def Qz(s:Ls)(f:Nm→Int)(B KB M SB PB:Nat)(len:Int→Int)(us:List Int):Prop:=∀u∈us,∀V,LenW V s f B KB M SB PB len→Calls Tryz.prog 95 #[int i64 u,.pointer (some ⟨KB,0,none⟩),.pointer (some ⟨SB,0,none⟩),.pointer (some ⟨B,0,none⟩)] V (Jr s f B KB M SB PB len (len u) V)
theorem L7(s:Ls)(f:Nm→Int)(B KB M SB PB:Nat)(len:Int→Int)(T:Lt)
  (hI:∀T':Lt,T'.size<T.size→∀(ia:Option Addr) (ic:Nat) (W:World),T'.strip.exB=true→(∀u∈T'.strip.uses f,0≤len u∧len u≤4097)→Qz s f B KB M SB PB len (T'.strip.uses f)→(T'.len=0∨ia=some ⟨blk ia,off ia,none⟩)→T'.len≤maxLen→T'.At W (blk ia) (off ia)→NumAt f W (T'.refsL (blk ia) (off ia))→LenW W s f B KB M SB PB len→Calls Tryz.prog 94 #[.slice ia T'.len ic,.pointer (some ⟨SB,0,none⟩),.pointer (some ⟨PB,0,none⟩)] W (Jr s f B KB M SB PB len (T'.strip.sumF f len 0) W))
  (ia:Option Addr) (ic:Nat) (W:World) (hx:T.strip.exB=true) (hu:∀u∈T.strip.uses f,0≤len u∧len u≤4097) (hP:Qz s f B KB M SB PB len (T.strip.uses f)) (hf:T.len=0∨ia=some ⟨blk ia,off ia,none⟩) (hl:T.len≤maxLen) (hT:T.At W (blk ia) (off ia)) (hU:NumAt f W (T.refsL (blk ia) (off ia))) (hL:LenW W s f B KB M SB PB len):Calls Tryz.prog 94 #[.slice ia T.len ic,.pointer (some ⟨SB,0,none⟩),.pointer (some ⟨PB,0,none⟩)] W (Jr s f B KB M SB PB len (T.strip.sumF f len 0) W):=by
 have HI:=qh hI;have HT:=qh hT;have HF:=qh hf;have HU:=qh hU;have HL:=qh hL;have HX:=qh hx;have he:=qh hu;have HP:=qh hP;clear hI hT hf hU hL hx hu hP;generalize hm:T.len=q at *;have HM:=qh hm;clear hm;unfold maxLen at hl;go_enter Tryz.func94,Tryz.ntmps94;go_wp2_with fail;go_loopw [4,9] (λav iv wr=>∃(j:Nat) (R:Lt) (a:Int),iv=int i64 j∧av=int i64 a∧j+R.len=q∧0≤a∧a≤4097∧Hid (R.size≤T.size)∧Hid (T.strip.sumF f len 0=R.strip.sumF f len a)∧Hid (R.strip.exB=true)∧Hid (∀u∈R.strip.uses f,u∈T.strip.uses f)∧Hid (R.At wr (blk ia) (off ia+j*6))∧Hid (NumAt f wr (R.refsL (blk ia) (off ia+j*6)))∧Hid (LenW wr s f B KB M SB PB len)∧Hid (W.grownBy wr (some M))) (λ_ iv _=>q+1-(intOf iv).toNat)
 case atStart=>exact ⟨0,T,0,rfl,rfl,by rw [HM.out];omega,by omega,by omega,qh (qn _),qh rfl,HX,qh (λ_ h=>h),by simpa [Hid] using HT.out,by simpa [Hid] using HU.out,HL,qh (World.grownBy.refl _ _)⟩
 case round =>
  obtain ⟨j,R,a,rfl,rfl,hg,HQ,HS,hh,hH,ho,ha,hR,hK,hb,hB⟩:=hrel
  cases R with
  | nil =>
   simp only [Lt.len,Nat.add_zero] at hg;subst hg;go_wp2_with fail;go_ret;exact ⟨by rw [hH.out];rfl,hb.out,hB.out⟩
  | cons kk nn un ja jc its ma mc ms r =>
   simp only [Lt.len] at hg;have hi:(j:Int)<(q:Int):=by omega
   have e:=HF.out.resolve_left (by omega);obtain ⟨⟨u,g3,hu⟩,_,k2,k3⟩:=hK.out.mov;obtain ⟨⟨g0,g1,g2,g4,g5⟩,_,⟨i1,i2,i3⟩,hr⟩:=hR.out;obtain ⟨hp,hj,hq⟩:=Its.exB_parts ho.out;have hs:its.size<T.size:=by have:=hh.out;simp only [Lt.size] at this;omega
   have hJ:r.size≤T.size:=by have:=hh.out;simp only [Lt.size] at this;omega
   obtain ⟨W2,HV,gW2,bW2,sW2⟩:=Af wr #[int i64 kk,int i64 nn,sv un,int i64 u,.slice ja its.len jc,.slice ma ms.length mc] 121;have hM:=hb.out.below bW2;have hM2:=hM.isMap;have ht:=hb.out.isMap;have hd:∀u∈its.strip.uses f,u∈T.strip.uses f:=λv hv=>ha.out v (by simp [Lt.strip,Its.uses,hv])
   have hw:∀u∈r.strip.uses f,u∈T.strip.uses f:=λv hv=>ha.out v (by simp [Lt.strip,Its.uses,hv])
   have hy:=Its.sumF_bound f len its.strip 0 hj (λu h=>he.out u (hd u h)) (by omega) (by omega);have C:=λ(V:World) (hv:W2.grownBy V (some M)) (hc:LenW V s f B KB M SB PB len)=>HI.out its hs ja jc V hj (λu h=>he.out u (hd u h)) (λu h=>HP.out u (hd u h)) i1 i2 ((i3.below bW2).grown hM2 hv) ((k2.below bW2).grown hM2 hv) hc
   obtain ⟨si,hk⟩:∃si,its.strip.sumF f len 0=si:=⟨_,rfl⟩;rw [hk] at C hy
   have hz:T.strip.sumF f len 0=r.strip.sumF f len (min (a+(if kk=1 then 1 else if kk=2 then nn*si else if kk=3 then si else if kk=4 then len (f un) else 0)) 4097):=by
    rw [hH.out];simp only [Lt.strip,Its.sumF,hk]
   have hN:=qh hz;have HC:=qh C
   have HR:Hid (r.At wr (blk ia) (off ia+(j+1)*6)∧NumAt f wr (r.refsL (blk ia) (off ia+(j+1)*6))):=qh (by
    rw [show off ia+(j+1)*6=off ia+j*6+6 by omega]
    exact ⟨hr,k3⟩)
   have HW:=qh gW2;have hO:=qh bW2;have hQ:=qh hM;have h8:=qh hM2;have hS:=qh hJ;have hE:=qh ht;have hV:=qh hq;have hW:=qh hw;have h9:Hid (kk=4→u=f un∧u∈T.strip.uses f):=qh (λh4=>⟨hu h4,by rw [hu h4];exact ha.out _ (by simp [Lt.strip,Its.uses,h4])⟩);have HA:Hid (kk=2→1≤nn∧nn≤64):=qh (λh2=>by subst h2;exact Fm hp);have y0:=Aa gW2 0 rfl;have y1:=Aa gW2 1 rfl;have y3:=Aa gW2 3 rfl;have y4:=Aa gW2 4 rfl;have zs:=Aa hM.sb 0 rfl;have zp:=Aa hM.pb 0 rfl;obtain ⟨h0,HB⟩:=hy;clear C gW2 bW2 sW2 i1 i2 i3 hr hs k2 k3 hR hK ha hh hJ hM hM2 ht hq hj hp ho hH hz hw hd hk hu hb;generalize HE:blk ia=bb at *;generalize HG:off ia=oo at *;subst e;clear HE HG HF;by_cases h1:kk=1
   ·subst h1
    have hA:Hid (T.strip.sumF f len 0=r.strip.sumF f len (min (a+1) 4097)):=qh (by rw [hN.out,if_pos rfl]);have hD:=Dq (m:=M) hO.out;have hC:=qh hD;clear hD;go_wp2_with fail;go_roundw
    case rel=>exact ⟨j+1,r,_,by go_num,rfl,by omega,by omega,by omega,hS,hA,hV,hW,qh (HR.out.1.grown hE.out hC.out),qh (HR.out.2.grown hE.out hC.out),hQ,qh (Bx hB.out hC.out)⟩
    case measure=>simp [intOf];omega
   ·by_cases h2:kk=2
    ·subst h2
     obtain ⟨HY,HH⟩:=HA.out rfl;have hA:Hid (T.strip.sumF f len 0=r.strip.sumF f len (min (a+nn*si) 4097)):=qh (by rw [hN.out,if_neg h1,if_pos rfl]);have HZ:0≤nn*si:=Int.mul_nonneg (by omega) h0;have Ha:nn*si≤64*4097:=Int.mul_le_mul HH HB h0 (by omega);have HJ:IntKind.i64.wrap (nn*si)=nn*si:=IntWalk.i64_in _ (by omega);have HK:IntKind.i64.wrap (a+nn*si)=a+nn*si:=IntWalk.i64_in _ (by omega);go_wp2_with fail;have HD:=qh (And.intro (Dq (m:=M) (Ca W2 W2.heap.size)) (hQ.out.below (Ca W2 W2.heap.size)));have HN:Hid (ED W2.drew M):=qh h8.out;have HO:Hid (W2.drew.cell? ⟨wr.heap.size,1,none⟩=some (int i64 nn)):=qh y1
     go_region_with (go_at_call 94;refine (HC.out _ HD.out.1 HD.out.2).mono ?_;rintro e V ⟨rfl,hG,hF⟩;have hX:=qh hG;have hY:=qh hF;have zz:=BH HO.out HN.out hF;clear hG hF)
     all_goals
      clear HJ HK;go_wp2_with fail;have hD:=CV hO.out (Bx HD.out.1 hY.out);have hC:=qh hD;clear hD;go_roundw
      case rel=>exact ⟨j+1,r,_,by go_num,rfl,by omega,by omega,by omega,hS,hA,hV,hW,qh (HR.out.1.grown hE.out hC.out),qh (HR.out.2.grown hE.out hC.out),hX,qh (Bx hB.out hC.out)⟩
      case measure=>simp [intOf];omega
    ·by_cases h3:kk=3
     ·subst h3
      have hA:Hid (T.strip.sumF f len 0=r.strip.sumF f len (min (a+si) 4097)):=qh (by rw [hN.out,if_neg h1,if_neg h2,if_pos rfl])
      go_wp2_with (go_at_call 94;refine (HC.out _ (World.grownBy.refl _ _) hQ.out).mono ?_;rintro e V ⟨rfl,hG,hF⟩;have hX:=qh hG;have hY:=qh hF;clear hG hF);have hD:=CV hO.out hY.out;have hC:=qh hD;clear hD;go_roundw
      case rel=>exact ⟨j+1,r,_,by go_num,rfl,by omega,by omega,by omega,hS,hA,hV,hW,qh (HR.out.1.grown hE.out hC.out),qh (HR.out.2.grown hE.out hC.out),hX,qh (Bx hB.out hC.out)⟩
      case measure=>simp [intOf];omega
     ·by_cases h4:kk=4
      ·subst h4
       obtain ⟨h5,hn⟩:=h9.out rfl;have hA:Hid (T.strip.sumF f len 0=r.strip.sumF f len (min (a+len u) 4097)):=qh (by rw [hN.out,if_neg h1,if_neg h2,if_neg h3,if_pos rfl,← h5]);have h6:=he.out u hn;have h7:=qh (HP.out u hn W2 hQ.out);clear h5 hn;obtain ⟨lu,hZ⟩:∃lu,len u=lu:=⟨_,rfl⟩;rw [hZ] at h7 hA h6;obtain ⟨l0,l1⟩:=h6;clear hZ
       go_wp2_with (go_at_call 95;refine h7.out.mono ?_;rintro e V ⟨rfl,hG,hF⟩;have hX:=qh hG;have hY:=qh hF;clear hG hF);have hD:=CV hO.out hY.out;have hC:=qh hD;clear hD;go_roundw
       case rel=>exact ⟨j+1,r,_,by go_num,rfl,by omega,by omega,by omega,hS,hA,hV,hW,qh (HR.out.1.grown hE.out hC.out),qh (HR.out.2.grown hE.out hC.out),hX,qh (Bx hB.out hC.out)⟩
       case measure=>simp [intOf];omega
      ·have hA:Hid (T.strip.sumF f len 0=r.strip.sumF f len (min (a+0) 4097)):=qh (by rw [hN.out,if_neg h1,if_neg h2,if_neg h3,if_neg h4])
       have hD:=Dq (m:=M) hO.out;have hC:=qh hD;clear hD;go_wp2_with fail;go_roundw
       case rel=>exact ⟨j+1,r,_,by go_num,by simp,by omega,by omega,by omega,hS,hA,hV,hW,qh (HR.out.1.grown hE.out hC.out),qh (HR.out.2.grown hE.out hC.out),hQ,qh (Bx hB.out hC.out)⟩
       case measure=>simp [intOf];omega
theorem Sd(s:Ls)(f:Nm→Int)(B KB M SB PB:Nat)(len:Int→Int):∀(z:Nat) (T:Lt),T.size≤z→∀(ia:Option Addr) (ic:Nat) (W:World),T.strip.exB=true→(∀u∈T.strip.uses f,0≤len u∧len u≤4097)→Qz s f B KB M SB PB len (T.strip.uses f)→(T.len=0∨ia=some ⟨blk ia,off ia,none⟩)→T.len≤maxLen→T.At W (blk ia) (off ia)→NumAt f W (T.refsL (blk ia) (off ia))→LenW W s f B KB M SB PB len→Calls Tryz.prog 94 #[.slice ia T.len ic,.pointer (some ⟨SB,0,none⟩),.pointer (some ⟨PB,0,none⟩)] W (Jr s f B KB M SB PB len (T.strip.sumF f len 0) W):=by
 intro z
 induction z with
 | zero=>intro T hs;exact L7 s f B KB M SB PB len T (λT' hA=>absurd hA (by omega))
 | succ z ih=>intro T hs;exact L7 s f B KB M SB PB len T (λT' hA=>ih T' (by omega))
theorem Tn{kvs:List (Int×Value)}{k:Int}{x0:Value}(h:Au kvs k=some x0)(v:Value):Au (Bn kvs k v) k=some v:=by
 unfold Bn;rw [h];simp only [Option.isSome_some,if_true];unfold Au at h ⊢;rw [List.find?_map]
 have e:((λp=>decide (p.1=k)) ∘ λp=>if p.1=k then (p.1,v) else p)=λp:Int×Value=>decide (p.1=k):=by
  funext p;simp only [Function.comp];split<;>rfl
 rw [e]
 cases hf:kvs.find? (λp=>decide (p.1=k)) with
 | none=>rw [hf] at h;cases h
 | some p =>
  have hp:=List.find?_some hf;have hA:p.1=k:=by simpa using hp
  simp only [Option.map_some,if_pos hA]
theorem FarM.set{W:World}{F:Nat}{g:Int→Option Int}(h:FarM W F g)(k v:Int) :
  ∃W',(Instr.mapUpdate 161 (.map (some F)) (int i64 k) (int i64 v)).run Tryz.prog W=.ok () W'∧FarM W' F (Gr g k v)∧W.grownBy W' (some F):=by
 obtain ⟨kvs,h1,h2,h3⟩:=h;obtain ⟨o,hA,hM⟩:=Bj (P:=Tryz.prog) Bz Tryz.underlying161 Tryz.underlying3 h1 h2 k (int i64 v);refine ⟨_,hA,⟨_,hM,BP h2 k _,λx=>?_⟩,El W F o⟩;unfold Gr;by_cases hx:x=k
 ·subst hx
  rw [if_pos rfl]
  cases hg:Au kvs x with
  | none=>rw [JH hg];rfl
  | some y=>rw [Tn hg];rfl
 ·rw [if_neg hx,← h3 x]
  cases hg:Au kvs x with
  | none=>exact Gw hg (λe=>hx e.symm) _
  | some y=>exact JI hg (λe=>hx e.symm) _
theorem LenW.grown{W V:World}{s:Ls}{f:Nm→Int}{B KB M SB PB:Nat}{len:Int→Int}{g:Int→Option Int}(h:LenW W s f B KB M SB PB len)(hg:W.grownBy V (some M))(hf:FarM V M g)(hk:∀x v,g x=some v→v=len x):LenW V s f B KB M SB PB len:=by
 obtain ⟨w0,a1,a2,a3⟩:=h.sc;exact ⟨⟨w0,a1,a2.grown hg a2.size (λk hk=>by cases hk;exact a3),a3⟩,Ce h.kb h.isMap hg,Ce h.sb h.isMap hg,Ce h.pb h.isMap hg,⟨g,hf,hk⟩⟩
theorem LenW.set{W:World}{s:Ls}{f:Nm→Int}{B KB M SB PB:Nat}{len:Int→Int}(h:LenW W s f B KB M SB PB len)(j v:Int)(hv:len j=v) :
  ∃W',(Instr.mapUpdate 161 (.map (some M)) (int i64 j) (int i64 v)).run Tryz.prog W=.ok () W'∧LenW W' s f B KB M SB PB len∧W.grownBy W' (some M):=by
 obtain ⟨g,h1,h2⟩:=h.known;obtain ⟨W',r1,r2,r3⟩:=h1.set j v;refine ⟨W',r1,h.grown r3 r2 (λx y hA=>?_),r3⟩;unfold Gr at hA
 split at hA
 ·rename_i e;subst e;cases hA;exact hv.symm
 ·exact h2 x y hA
theorem MS(s:Ls)(f:Nm→Int)(B KB M SB PB:Nat)(len:Int→Int)(j:Nat)(p:Ph)(hp:s.phrases[j]?=some p)(_hj:j≤1000)(_hpl:s.phrases.length≤1000)(hx:p.its.strip.exB=true)(hu:∀u∈p.its.strip.uses f,0≤len u∧len u≤4097)(hP:Qz s f B KB M SB PB len (p.its.strip.uses f))(hA:len j=p.its.strip.sumF f len 0)
  (W:World) (hL:LenW W s f B KB M SB PB len):Calls Tryz.prog 95 #[int i64 j,.pointer (some ⟨KB,0,none⟩),.pointer (some ⟨SB,0,none⟩),.pointer (some ⟨B,0,none⟩)] W (Jr s f B KB M SB PB len (len j) W):=by
 obtain ⟨g,hF,hE⟩:=hL.known;have hI:=hF.lookup j;have y1:=Aa hL.kb 0 rfl
 cases hB:g j with
 | some v =>
  have hv:=hE _ _ hB;rw [hB] at hI;have HV:=qh hv;have HL:=qh hL;clear hp hx hu hP hA hL hF hE hB hv;go_enter Tryz.func95,Tryz.ntmps95;go_wp2_with fail;go_ret;exact ⟨by rw [← HV.out];rfl,HL.out,World.grownBy.refl _ _⟩
 | none =>
  rw [hB] at hI;have ys:=Aa hL.sb 0 rfl;have yb:W.cell? ⟨B,10,none⟩=some (.slice s.fa s.phrases.length s.fc):=Aa hL.score.box 10 rfl;obtain ⟨c0,c1⟩:=Cs hL.score.at_.phrases hp;obtain ⟨i1,i2,i3⟩:=Di hL.score.at_.phrases hp;have hC:NumAt f W (p.its.refsL (blk p.ia) (off p.ia)):=λx hx=>hL.score.nums x (CE hp hx)
  have hO:=hL.score.at_.pform.resolve_left (λe=>by rw [e] at hp;cases hp);have hQ:j<s.phrases.length:=(ql.1 hp).1;unfold Ph.val at c1;have C:=Sd s f B KB M SB PB len _ p.its (qn _) p.ia p.ic W.drew hx hu hP i1 i2 (i3.below (Ca W _)) (hC.below (Ca W _)) (hL.below (Ca W _));rw [← hA] at C;have HC:=qh C;have HL:=qh hL;have hR:Hid (W.grownBy W.drew (some M)):=qh (Dq (Ca W _));obtain ⟨lj,hD⟩:∃lj,len j=lj:=⟨_,rfl⟩;rw [hD] at HC;have hT:=qh hD;have hd:(j:Int)<(s.phrases.length:Int):=by omega
  have hU:Hid (∀V,W.drew.grownBy V (some M)→V.cell? ⟨KB,0,none⟩=some (.map (some M))):=qh (λV hg=>Aa (Ce (w:=W.drew) hL.kb hL.isMap hg) 0 rfl);clear hp hx hu hP hL hF hE hB C i1 i2 i3 hC hQ hA c0;generalize s.phrases.length=n at *;generalize hJ:s.fa=fa at *;have he:=qh hJ;clear hJ;generalize hW:blk fa=fb at *;generalize hX:off fa=fo at *;subst hO;clear hW hX;have hG:=λV (hV:LenW V s f B KB M SB PB len)=>hV.set j lj hD
  have hY:=qh hG;clear hG hD;go_enter Tryz.func95,Tryz.ntmps95;go_wp2_with fail;refine AM (λw2=>w2=W.drew) 7 (by kernel_rfl) (by kernel_rfl) rfl ?_;intro w2 hS;subst hS;simp only [List.take_succ_cons,List.take_zero,List.drop_succ_cons,List.drop_zero]
  repeat still_step
  refine wpStill_nil ?_
  go_wp2_with (go_at_call 94;refine HC.out.mono ?_;rintro e V ⟨rfl,hK,hH⟩;have hZ:=qh hK;have ha:=qh hH;have yk:=hU.out V hH;clear hK hH;obtain ⟨V',hG,hM,hN⟩:=hY.out V hZ.out;have hb:=qh hM;have hc:=qh hN;clear hM hN);go_ret;exact ⟨by rw [hT.out];rfl,hb.out,Bx hR.out (Bx ha.out hc.out)⟩
structure LenOk(ps:List Ph)(f:Nm→Int)(rk:Nat→Nat)(len:Int→Int):Prop where
 ex:∀(j:Nat) (p:Ph),ps[j]?=some p→p.its.strip.exB=true
 fix:∀(j:Nat) (p:Ph),ps[j]?=some p→len j=p.its.strip.sumF f len 0
 bound:∀j:Nat,j<ps.length→0≤len j∧len j≤4097
 down:∀(j:Nat) (p:Ph),ps[j]?=some p→∀u∈p.its.strip.uses f,∃i:Nat,u=i∧i<ps.length∧rk i<rk j
theorem RC(s:Ls)(f:Nm→Int)(B KB M SB PB:Nat)(rk:Nat→Nat)(len:Int→Int)(h:LenOk s.phrases f rk len)(hA:s.phrases.length≤1000):∀(z j:Nat),rk j≤z→j<s.phrases.length→∀W,LenW W s f B KB M SB PB len→Calls Tryz.prog 95 #[int i64 j,.pointer (some ⟨KB,0,none⟩),.pointer (some ⟨SB,0,none⟩),.pointer (some ⟨B,0,none⟩)] W (Jr s f B KB M SB PB len (len j) W):=by
 intro z
 induction z with
 | zero =>
  intro j hz hj W hL;obtain ⟨p,hp⟩:∃p,s.phrases[j]?=some p:=⟨_,qg hj⟩;exact MS s f B KB M SB PB len j p hp (by omega) hA (h.ex j p hp) (λu hu=>by obtain ⟨i,rfl,hi,_⟩:=h.down j p hp u hu;exact h.bound i hi) (λu hu=>by obtain ⟨i,_,_,hr⟩:=h.down j p hp u hu;omega) (h.fix j p hp) W hL
 | succ z ih =>
  intro j hz hj W hL;obtain ⟨p,hp⟩:∃p,s.phrases[j]?=some p:=⟨_,qg hj⟩;exact MS s f B KB M SB PB len j p hp (by omega) hA (h.ex j p hp) (λu hu=>by obtain ⟨i,rfl,hi,_⟩:=h.down j p hp u hu;exact h.bound i hi) (λu hu V hV=>by obtain ⟨i,rfl,hi,hr⟩:=h.down j p hp u hu;exact ih i (by omega) hi V hV) (h.fix j p hp) W hL
theorem Ej(W:World)(b:Nat)(fn:Fn)(f c:Array Value)(x:Value)(hx:W.cell? ⟨b,0,none⟩=some x)(hf:W.frozen? ⟨b,0,none⟩=false):(store ⟨b,0,none⟩ (.func fn f c)).run Tryz.prog W=.ok () (W.setCell ⟨b,0,none⟩ (.func fn f c)):=by
 rw [run_store _ W _ _ _ rfl];simp [hx,hf]
def Ve(s:Ls)(f:Nm→Int)(len:Int→Int)(w:World)(e:Ending)(w':World):Prop:=∃B KB M SB PB,e=.returned (.func (.func 95) #[] #[.pointer (some ⟨KB,0,none⟩),.pointer (some ⟨SB,0,none⟩),.pointer (some ⟨B,0,none⟩)])∧LenW w' s f B KB M SB PB len∧w.heap.size≤M∧Below w.heap.size w w'
theorem KD(s:Ls)(f:Nm→Int)(len:Int→Int)(w:World)(hA:s.At w)(hU:NumAt f w (Ar s.phrases)):Calls Tryz.prog 60 #[s.val] w (Ve s f len w):=by
 obtain ⟨W0,hH,gB,b0,s0⟩:=Af w s.cells 30;have hS:RgS s f w.heap.size W0:=⟨hA.below b0,gB,hU.below b0⟩;have hJ:=@run_makeMap Tryz.prog;obtain ⟨W1,hD⟩:∃W1,W0.alloc (.map #[] 0)=W1:=⟨_,rfl⟩;obtain ⟨W2,hK,gK,b2,s2⟩:=Af W1 #[.map (some W0.heap.size)] 161;obtain ⟨W3,hL,gP,b3,s3⟩:=Af W2 #[.nilFunc] 118;obtain ⟨W4,hM,gS,b4,s4⟩:=Af W3 #[.nilFunc] 128;have b1:Below W0.heap.size W0 W1:=by rw [← hD];exact (Below.refl _ _).alloc (qn _) _
 have s1:W1.heap.size=W0.heap.size+1:=by rw [← hD];simp
 obtain ⟨W5,hB⟩:∃W5,W4.setCell ⟨W3.heap.size,0,none⟩ (.func (.func 94) #[] #[.pointer (some ⟨W3.heap.size,0,none⟩),.pointer (some ⟨W2.heap.size,0,none⟩)])=W5:=⟨_,rfl⟩;obtain ⟨W6,hC⟩:∃W6,W5.setCell ⟨W2.heap.size,0,none⟩ (.func (.func 95) #[] #[.pointer (some ⟨W1.heap.size,0,none⟩),.pointer (some ⟨W3.heap.size,0,none⟩),.pointer (some ⟨w.heap.size,0,none⟩)])=W6:=⟨_,rfl⟩;have gP4:=Ah b4 gP;have gP5:W5.heap[W2.heap.size]?=some (.cells #[.nilFunc] 118 (0,0)):=by rw [← hB,AX _ (by omega)];exact gP4
 have gS5:W5.heap[W3.heap.size]?=some (.cells #[(.func (.func 94) #[] #[.pointer (some ⟨W3.heap.size,0,none⟩),.pointer (some ⟨W2.heap.size,0,none⟩)])] 128 (0,0)):=by rw [← hB,CY _ gS];rfl
 have gP6:W6.heap[W2.heap.size]?=some (.cells #[(.func (.func 95) #[] #[.pointer (some ⟨W1.heap.size,0,none⟩),.pointer (some ⟨W3.heap.size,0,none⟩),.pointer (some ⟨w.heap.size,0,none⟩)])] 118 (0,0)):=by rw [← hC,CY _ gP5];rfl
 have gS6:W6.heap[W3.heap.size]?=some (.cells #[(.func (.func 94) #[] #[.pointer (some ⟨W3.heap.size,0,none⟩),.pointer (some ⟨W2.heap.size,0,none⟩)])] 128 (0,0)):=by rw [← hC,AX _ (by omega)];exact gS5
 have gK4:=Ah b4 (Ah b3 gK);have gK6:W6.heap[W1.heap.size]?=some (.cells #[.map (some W0.heap.size)] 161 (0,0)):=by rw [← hC,AX _ (by omega),← hB,AX _ (by omega)];exact gK4
 have hM1:FarM W1 W0.heap.size (λ_=>none):=by rw [← hD];exact FarM.new W0
 have b14:=Ag b2 (Ag b3 b4);have hE:=hM1.of_block (b14.block W0.heap.size hM1.lt);have hF:FarM W6 W0.heap.size (λ_=>none):=hE.of_block (by rw [← hC,AX _ (by omega),← hB,AX _ (by omega)]);have b04:=Ag b1 b14
 have b06:Below W0.heap.size W0 W6:=by
  rw [← hC,← hB];exact (b04.setCell (p:=⟨W3.heap.size,0,none⟩) (by show W0.heap.size≤W3.heap.size;omega) _).setCell (p:=⟨W2.heap.size,0,none⟩) (by show W0.heap.size≤W2.heap.size;omega) _
 have hG:LenW W6 s f w.heap.size W1.heap.size W0.heap.size W3.heap.size W2.heap.size len :=
  ⟨⟨W0,hS,b06,qn _⟩,gK6,gS6,gP6,⟨_,hF,λx v h=>by cases h⟩⟩
 have x4:W4.cell? ⟨W3.heap.size,0,none⟩=some .nilFunc:=Aa gS 0 rfl;have f4:W4.frozen? ⟨W3.heap.size,0,none⟩=false:=(show FreeB W4 W3.heap.size from ⟨_,_,gS⟩).free 0;have x5:W5.cell? ⟨W2.heap.size,0,none⟩=some .nilFunc:=Aa gP5 0 rfl;have f5:W5.frozen? ⟨W2.heap.size,0,none⟩=false:=(show FreeB W5 W2.heap.size from ⟨_,_,gP5⟩).free 0;have st5:=Ej W4 W3.heap.size (.func 94) #[] #[.pointer (some ⟨W3.heap.size,0,none⟩),.pointer (some ⟨W2.heap.size,0,none⟩)] _ x4 f4;have st6:=Ej W5 W2.heap.size (.func 95) #[] #[.pointer (some ⟨W1.heap.size,0,none⟩),.pointer (some ⟨W3.heap.size,0,none⟩),.pointer (some ⟨w.heap.size,0,none⟩)] _ x5 f5;rw [hB] at st5;rw [hC] at st6;have x6:W6.cell? ⟨W2.heap.size,0,none⟩=some (.func (.func 95) #[] #[.pointer (some ⟨W1.heap.size,0,none⟩),.pointer (some ⟨W3.heap.size,0,none⟩),.pointer (some ⟨w.heap.size,0,none⟩)]):=Aa gP6 0 rfl;have hv:s.val=.agg s.cells:=rfl;rw [hv];have HL:=qh hG;have HB:=qh (Ag b0 b06);have hI:Hid (w.heap.size≤W0.heap.size):=qh (by omega);unfold Ls.cells at hH ⊢;clear hG hF hE hM1 b14 b04 b06 gK6 gK4 gS6 gP6 gS5 gP5 gP4 s0 s1 s2 s3 s4 b0 b1 b2 b3 b4 hS gB gK gP gS hA hU hv;go_enter Tryz.func60,Tryz.ntmps60;go_wp2_with fail;go_ret;exact ⟨_,_,_,_,_,rfl,HL.out,hI.out,HB.out⟩
end
section
open Go
def SH(g g':Int→Option Int)(nn:Int):Prop:=∀x,g' x=g x∨(g x=none∧g' x=some nn)
theorem Pj{g g':Int→Option Int}{nn i:Int}(h:SH g g' nn)(to:Int):E4 i nn g' to=E4 i nn g to:=by
 unfold E4
 congr 2
 rcases h to with e|⟨e1,e2⟩
 ·rw [e]
 ·rw [e1,e2]
  have h1:¬(some nn=some (nn-1)):=by simp only [Option.some.injEq];omega
  have h2:¬((none:Option Int)=some (nn-1)):=by simp
  rw [decide_eq_false h1,decide_eq_false h2]
theorem Nu{g g':Int→Option Int}{nn i:Int}(h:SH g g' nn)(ks:List Int):Dg ks i nn g'=Dg ks i nn g:=by
 unfold Dg
 congr 1
 funext to
 exact Pj h to
theorem IU(kss:List (List Int))(i nn:Int)(g:Int→Option Int):∀j,SH g (Ew kss i nn g j) nn
 | 0=>λx=>Or.inl rfl
 | j+1=>λx=>by
  have ih:=IU kss i nn g j;unfold Ew EL
  split
  ·exact ih x
  ·split
   ·rename_i h1 _
    unfold Gr
    split
    ·rename_i hx
     subst hx;rcases ih j with e|⟨e1,e2⟩
     ·right
      refine ⟨?_,rfl⟩;rw [← e]
      cases h2:Ew kss i nn g j j with
      | none=>rfl
      | some v=>rw [h2] at h1;simp at h1
     ·rw [e2] at h1;simp at h1
    ·exact ih x
   ·exact ih x
theorem Gv(kss:List (List Int))(i nn:Int)(g:Int→Option Int):∀(j:Nat) (x:Int),Ew kss i nn g j x=if (g x).isSome=true then g x else if 0≤x∧x<j∧Dg (kss.getD x.toNat []) i nn g=true then some nn else none
 | 0,x=>by
  unfold Ew
  cases h:g x with
  | some v=>simp
  | none =>
   have:¬(0≤x∧x<((0:Nat):Int)∧Dg (kss.getD x.toNat []) i nn g=true):=by rintro ⟨h1,h2,_⟩;omega
   rw [if_neg this];simp
 | j+1,x=>by
  have ih:=Gv kss i nn g j;have hn:=IU kss i nn g j;unfold Ew EL;by_cases hx:x=(j:Int)
  ·subst hx
   have ihj:=ih j;have hA:¬((j:Int)<(j:Nat)):=by omega
   split
   ·rename_i h1
    rw [ihj] at h1 ⊢
    split
    ·rfl
    ·rename_i h2
     rw [if_neg h2,if_neg (λh=>hA h.2.1)] at h1;simp at h1
   ·rename_i h1
    have hB:(g j).isSome=false:=by
     cases h2:(g j).isSome with
     | false=>rfl
     | true=>rw [ihj,if_pos h2,h2] at h1;simp at h1
    rw [Nu hn,hB];simp only [Bool.false_eq_true,if_false]
    have e:(0≤(j:Int)∧(j:Int)<((j+1:Nat):Int)∧Dg (kss.getD (j:Int).toNat []) i nn g=true)↔Dg (kss.getD j []) i nn g=true:=by
     rw [Int.toNat_natCast];exact ⟨λh=>h.2.2,λh=>⟨by omega,by omega,h⟩⟩
    split
    ·rename_i h3
     rw [if_pos (e.2 h3)];unfold Gr;simp
    ·rename_i h3
     rw [ihj,hB];simp only [Bool.false_eq_true,if_false];rw [if_neg (λh=>hA h.2.1),if_neg (λh=>h3 (e.1 h))]
  ·have e:(0≤x∧x<((j+1:Nat):Int)∧Dg (kss.getD x.toNat []) i nn g=true)↔(0≤x∧x<((j:Nat):Int)∧Dg (kss.getD x.toNat []) i nn g=true) :=
    ⟨λh=>⟨h.1,by have:=h.2.1;omega,h.2.2⟩,λh=>⟨h.1,by have:=h.2.1;omega,h.2.2⟩⟩
   have e2:Ew kss i nn g j x=if (g x).isSome=true then g x else if 0≤x∧x<((j+1:Nat):Int)∧Dg (kss.getD x.toNat []) i nn g=true then some nn else none:=by
    rw [ih x];simp only [e]
   split
   ·exact e2
   ·split
    ·unfold Gr
     rw [if_neg hx];exact e2
    ·exact e2
section
variable {kss:List (List Int)} {i:Int}
theorem Er{m:Nat}{x v:Int}(h:AR kss i m x=some v):AR kss i (m+1) x=some v:=by
 unfold AR;rw [Gv,h]
 rfl
theorem LQ{x v:Int}{m k:Nat}(hk:m≤k)(h:AR kss i m x=some v):AR kss i k x=some v:=by
 induction k with
 | zero=>rw [show (0:Nat)=m by omega];exact h
 | succ k ih =>
  rcases Nat.lt_or_ge m (k+1) with h1|h1
  ·exact Er (ih (by omega))
  ·rw [show k+1=m by omega];exact h
theorem Fg{m:Nat}{x v:Int}(h:AR kss i (m+1) x=some v):AR kss i m x=some v∨(AR kss i m x=none∧v=(m+1:Nat)∧0≤x∧x<kss.length∧Dg (kss.getD x.toNat []) i (m+1:Nat) (AR kss i m)=true):=by
 unfold AR at h;rw [Gv] at h
 cases hg:AR kss i m x with
 | some u=>rw [hg] at h;left;simpa using h
 | none =>
  rw [hg] at h;simp only [Option.isSome_none,Bool.false_eq_true,if_false] at h
  split at h
  ·rename_i hc
   right
   cases h;exact ⟨rfl,rfl,hc⟩
  ·cases h
theorem QW{m:Nat}{x v:Int}:AR kss i m x=some v→0≤x∧x<kss.length:=by
 induction m with
 | zero=>intro h;cases h
 | succ m ih =>
  intro h;rcases Fg h with h|⟨_,_,h1,h2,_⟩
  ·exact ih h
  ·exact ⟨h1,h2⟩
theorem Pb{m:Nat}{x:Int}(h0:0≤x)(h1:x<kss.length)(h:Dg (kss.getD x.toNat []) i (m+1:Nat) (AR kss i m)=true):(AR kss i (m+1) x).isSome=true:=by
 unfold AR;rw [Gv]
 cases hg:AR kss i m x with
 | some u=>rfl
 | none =>
  simp only [Option.isSome_none,Bool.false_eq_true,if_false];rw [if_pos ⟨h0,h1,h⟩]
  rfl
def Lv(kss:List (List Int))(i:Int)(m:Nat):Prop:=∃x,AR kss i m x=some (m:Int)
theorem Lv.down{m:Nat}(hm:1≤m)(h:Lv kss i (m+1)):Lv kss i m:=by
 obtain ⟨x,hx⟩:=h;rcases Fg hx with h|⟨_,_,_,_,h⟩
 ·have:=Eb h;omega
 ·unfold Dg at h
  rw [List.any_eq_true] at h;obtain ⟨to,_,hA⟩:=h;unfold E4 at hA;rw [Bool.or_eq_true,Bool.and_eq_true,Bool.and_eq_true] at hA;rcases hA with ⟨h1,_⟩|⟨_,h2⟩
  ·have:=of_decide_eq_true h1;omega
  ·have:=of_decide_eq_true h2
   exact ⟨to,by rw [this];congr 1;omega⟩
def cnt(kss:List (List Int))(i:Int)(m:Nat):Nat:=((List.range kss.length).filter λx:Nat=>(AR kss i m x).isSome).length
theorem SY(m:Nat):cnt kss i m≤kss.length:=by
 unfold cnt;exact Nat.le_trans (List.length_filter_le _ _) (by simp)
theorem Lv.count:∀{m:Nat},Lv kss i m→m≤cnt kss i m
 | 0,_=>Nat.zero_le _
 | m+1,h=>by
  have hm:m≤cnt kss i m:=by
   rcases Nat.eq_zero_or_pos m with e|e
   ·omega
   ·exact Lv.count (h.down e)
  obtain ⟨x,hx⟩:=h;obtain ⟨h0,h1⟩:=QW hx;obtain ⟨a,rfl⟩:∃a:Nat,x=a:=⟨x.toNat,by omega⟩
  have hA:(AR kss i m a).isSome=false:=by
   cases hg:AR kss i m a with
   | none=>rfl
   | some u =>
    have:=Eb hg;rw [Er hg] at hx;cases hx;omega
  have:=filter_lt (λx:Nat=>(AR kss i (m+1) x).isSome) (λx:Nat=>(AR kss i m x).isSome) (λy hy=>by
   cases hg:AR kss i m y with
   | none=>rw [hg] at hy;cases hy
   | some u=>rw [Er hg];rfl) a (by rw [hx];rfl) hA (List.range kss.length) (by simp;omega)
  unfold cnt at hm ⊢;omega
theorem Pc(x:Int):AR kss i (kss.length+1) x=AR kss i kss.length x:=by
 cases h:AR kss i (kss.length+1) x with
 | none =>
  cases h2:AR kss i kss.length x with
  | none=>rfl
  | some v=>rw [Er h2] at h;cases h
 | some v =>
  rcases Fg h with h2|⟨_,hv,_⟩
  ·exact h2.symm
  ·exfalso
   have hl:Lv kss i (kss.length+1):=⟨x,by rw [h,hv]⟩;have:=hl.count;have:=SY (kss:=kss) (i:=i) (kss.length+1);omega
theorem Kx{x u:Int}(h0:0≤x)(h1:x<kss.length)(hu:u∈kss.getD x.toNat [])(h:u=i∨(AR kss i kss.length u).isSome=true):(AR kss i kss.length x).isSome=true:=by
 have key:∀m:Nat,m≤kss.length→Dg (kss.getD x.toNat []) i (m+1:Nat) (AR kss i m)=true→(AR kss i kss.length x).isSome=true:=by
  intro m hm hh;have h2:=Pb h0 h1 hh;rw [← Pc]
  cases hg:AR kss i (m+1) x with
  | none=>rw [hg] at h2;cases h2
  | some v=>rw [LQ (by omega) hg];rfl
 rcases h with rfl|h
 ·refine key 0 (Nat.zero_le _) ?_
  unfold Dg;rw [List.any_eq_true];exact ⟨u,hu,by unfold E4;simp⟩
 ·cases hg:AR kss i kss.length u with
  | none=>rw [hg] at h;cases h
  | some v =>
   obtain ⟨hA,hB⟩:=Eb hg;obtain ⟨d,rfl⟩:∃d:Nat,v=d:=⟨v.toNat,by omega⟩
   have hd:AR kss i d u=some (d:Int):=by
    have:∀k:Nat,AR kss i k u=some (d:Int)→d≤k→AR kss i d u=some (d:Int):=by
     intro k
     induction k with
     | zero=>intro h;cases h
     | succ k ih =>
      intro h hk;rcases Nat.lt_or_ge d (k+1) with h3|h3
      ·rcases Fg h with h4|⟨_,h4,_⟩
       ·exact ih h4 (by omega)
       ·omega
      ·rw [show d=k+1 by omega] at h ⊢;exact h
    exact this _ hg (by omega)
   refine key d (by omega) ?_;unfold Dg;rw [List.any_eq_true];refine ⟨u,hu,?_⟩;unfold E4;rw [hd];have e1:decide (1<((d+1:Nat):Int))=true:=decide_eq_true (by omega);have e2:decide ((some (d:Int))=some (((d+1:Nat):Int)-1))=true:=decide_eq_true (by congr 1;omega);rw [e1,e2];simp
end
def Cz(kss:List (List Int))(j:Nat):Nat:=((List.range kss.length).filter λi:Nat=>(AR kss i kss.length j).isSome).length
theorem J9{kss:List (List Int)}(h:BG kss=[]){i:Nat}(hi:i<kss.length):AR kss i kss.length i=none:=by
 unfold BG at h
 split at h
 ·rename_i hf
  rw [List.find?_eq_none] at hf;have:=hf i (by simpa using hi);unfold Dy at this
  cases hg:AR kss i kss.length i with
  | none=>rfl
  | some v=>rw [hg] at this;simp at this
 ·cases h
theorem NV{kss:List (List Int)}(h:BG kss=[]){j u:Nat}(hj:j<kss.length)(hu:u<kss.length)(hm:(u:Int)∈kss.getD j []):Cz kss u<Cz kss j:=by
 unfold Cz;refine filter_lt (λi:Nat=>(AR kss i kss.length j).isSome) (λi:Nat=>(AR kss i kss.length u).isSome) (λi hi=>?_) u ?_ ?_ _ (by simpa using hu)
 ·exact Kx (by omega) (by omega) (by rw [Int.toNat_natCast];exact hm) (Or.inr hi)
 ·exact Kx (by omega) (by omega) (by rw [Int.toNat_natCast];exact hm) (Or.inl rfl)
 ·show (AR kss u kss.length u).isSome=false
  rw [J9 h hu];rfl
theorem MW{kss:List (List Int)}(h:BG kss=[]){j:Nat}(hj:j<kss.length):Cz kss j<kss.length:=by
 unfold Cz;have:=filter_lt (λ_:Nat=>true) (λi:Nat=>(AR kss i kss.length j).isSome) (λ_ _=>rfl) j rfl (by rw [J9 h hj];rfl) (List.range kss.length) (by simpa using hj);have e:(List.range kss.length).filter (λ_:Nat=>true)=List.range kss.length:=List.filter_eq_self.2 (λ_ _=>rfl);rw [e,List.length_range] at this;exact this
end
section
open Go
theorem KG(x:Int):∀(us ks:List Int),x∈us.foldl AY ks↔x∈ks∨x∈us
 | [],ks=>by simp
 | u::us,ks=>by
  rw [List.foldl_cons,KG x us,Ml];simp only [List.mem_cons]
  constructor
  ·rintro ((h|h)|h)
   ·exact Or.inl h
   ·exact Or.inr (Or.inl h)
   ·exact Or.inr (Or.inr h)
  ·rintro (h|h|h)
   ·exact Or.inl (Or.inl h)
   ·exact Or.inl (Or.inr h)
   ·exact Or.inr h
theorem Its.sumF_congr(f:Nm→Int)(F G:Int→Int):∀(T:Its) (n:Int),(∀u∈T.uses f,F u=G u)→T.sumF f F n=T.sumF f G n
 | .nil,_,_=>rfl
 | .cons k nn un its ms r,n,h=>by
  unfold Its.sumF;rw [its.sumF_congr f F G 0 (λu hu=>h u (by simp [Its.uses,hu]))]
  have e:(if k=4 then F (f un) else 0)=if k=4 then G (f un) else 0:=by
   split
   ·rename_i hk
    exact h (f un) (by simp [Its.uses,hk])
   ·rfl
  rw [e];exact r.sumF_congr f F G _ (λu hu=>h u (by simp [Its.uses,hu]))
def I6(L:List Its)(f:Nm→Int):Nat→Int→Int
 | 0,_=>0
 | d+1,k=>if 0≤k then (match L[k.toNat]? with
  | some t=>t.sumF f (I6 L f d) 0
  | none=>0) else 0
def DR(L:List Its)(f:Nm→Int):Int→Int:=I6 L f L.length
theorem Fk{L:List Its}{f:Nm→Int}{d j:Nat}{t:Its}(h:L[j]?=some t):I6 L f (d+1) j=t.sumF f (I6 L f d) 0:=by
 unfold I6;rw [if_pos (by omega),Int.toNat_natCast,h]
theorem NB{L:List Its}{f:Nm→Int}{rk:Nat→Nat}(hd:∀(j:Nat) (t:Its),L[j]?=some t→∀u∈t.uses f,∃i:Nat,u=i∧i<L.length∧rk i<rk j):∀(z j d d':Nat),rk j≤z→rk j<d→rk j<d'→j<L.length→I6 L f d j=I6 L f d' j:=by
 intro z
 induction z with
 | zero =>
  intro j d d' hz h1 h2 hj;obtain ⟨t,ht⟩:∃t,L[j]?=some t:=⟨_,qg hj⟩;obtain ⟨d,rfl⟩:∃e,d=e+1:=⟨d-1,by omega⟩;obtain ⟨d',rfl⟩:∃e,d'=e+1:=⟨d'-1,by omega⟩;rw [Fk ht,Fk ht];exact t.sumF_congr f _ _ 0 (λu hu=>by obtain ⟨i,rfl,hi,hr⟩:=hd j t ht u hu;omega)
 | succ z ih =>
  intro j d d' hz h1 h2 hj;obtain ⟨t,ht⟩:∃t,L[j]?=some t:=⟨_,qg hj⟩;obtain ⟨d,rfl⟩:∃e,d=e+1:=⟨d-1,by omega⟩;obtain ⟨d',rfl⟩:∃e,d'=e+1:=⟨d'-1,by omega⟩;rw [Fk ht,Fk ht]
  exact t.sumF_congr f _ _ 0 (λu hu=>by
   obtain ⟨i,rfl,hi,hr⟩:=hd j t ht u hu
   exact ih i d d' (by omega) (by omega) (by omega) hi)
theorem I7{L:List Its}{f:Nm→Int}(hx:∀t∈L,t.exB=true):∀(d:Nat) (k:Int),0≤I6 L f d k∧I6 L f d k≤4097
 | 0,_=>by unfold I6;omega
 | d+1,k=>by
  unfold I6
  split
  ·cases h:L[k.toNat]? with
   | none=>simp
   | some t=>exact t.sumF_bound f _ 0 (hx t (List.mem_of_getElem? h)) (λu _=>I7 hx d u) (by omega) (by omega)
  ·omega
def Ls.itsL(s:Ls):List Its:=s.phrases.map λp=>p.its.strip
def OE(L:List Its)(f:Nm→Int):Prop:=∀t∈L,∀u∈t.uses f,∃i:Nat,u=i∧i<L.length
theorem NK{s:Ls}{f:Nm→Int}{j:Nat}{p:Ph}(h:s.phrases[j]?=some p):(s.nexts f).getD j []=(p.its.strip.uses f).foldl AY []:=by
 unfold Ls.nexts;rw [List.getD_eq_getElem?_getD,List.getElem?_map,h];rfl
theorem LX{s:Ls}{f:Nm→Int}(hx:s.phrases.all (λp=>p.its.strip.exB)=true)(hr:BG (s.nexts f)=[])(hu:OE s.itsL f):LenOk s.phrases f (Cz (s.nexts f)) (DR s.itsL f):=by
 have hD:∀p∈s.phrases,p.its.strip.exB=true:=List.all_eq_true.1 hx
 have hC:∀t∈s.itsL,t.exB=true:=λt ht=>by
  obtain ⟨p,hp,rfl⟩:=List.mem_map.1 ht;exact hD p hp
 have hl:s.itsL.length=s.phrases.length:=by simp [Ls.itsL]
 have hk:(s.nexts f).length=s.phrases.length:=by simp [Ls.nexts]
 have hB:∀(j:Nat) (p:Ph),s.phrases[j]?=some p→s.itsL[j]?=some p.its.strip:=λj p h=>by unfold Ls.itsL;rw [List.getElem?_map,h];rfl
 have hA:∀(j:Nat) (p:Ph),s.phrases[j]?=some p→∀u∈p.its.strip.uses f,∃i:Nat,u=i∧i<s.phrases.length∧Cz (s.nexts f) i<Cz (s.nexts f) j:=λj p h u hm=>by
  obtain ⟨i,rfl,hi⟩:=hu _ (List.mem_of_getElem? (hB j p h)) u hm;rw [hl] at hi;have hj:=(ql.1 h).1;refine ⟨i,rfl,hi,NV hr (by rw [hk];exact hj) (by rw [hk];exact hi) ?_⟩;rw [NK h,KG];exact Or.inr hm
 have hE:∀(j:Nat) (t:Its),s.itsL[j]?=some t→∀u∈t.uses f,∃i:Nat,u=i∧i<s.itsL.length∧Cz (s.nexts f) i<Cz (s.nexts f) j:=λj t h u hm=>by
  have hj:=(ql.1 h).1;obtain ⟨p,hp⟩:∃p,s.phrases[j]?=some p:=⟨_,qg (by rw [← hl];exact hj)⟩;have:=hB j p hp;rw [h] at this;cases this;rw [hl];exact hA j p hp u hm
 refine ⟨λj p h=>hD p (List.mem_of_getElem? h),λj p h=>?_,λj _=>I7 hC _ _,hA⟩;have hj:=(ql.1 h).1
 have hF:∀i,i<s.phrases.length→Cz (s.nexts f) i<s.phrases.length:=λi hi=>by
  have:=MW hr (j:=i) (by rw [hk];exact hi)
  rwa [hk] at this
 unfold DR;obtain ⟨e,he⟩:∃e,s.itsL.length=e+1:=⟨s.itsL.length-1,by omega⟩;rw [he,Fk (hB j p h)];refine Its.sumF_congr f _ _ _ 0 (λu hm=>?_);obtain ⟨i,rfl,hi,hG⟩:=hA j p h u hm;have:=hF j hj;exact NB hE _ i e (e+1) (qn _) (by omega) (by omega) (by omega)
structure BarR where
 ma:Option Addr
 mc:Nat
 ms:List Mov
 mir:Bool
def AA(b:Bool)(l:List BarR):List BarR:=l.map λx=>{ x with mir:=x.mir ^^ b }
theorem LS(a b:Bool)(l:List BarR):AA b (AA a l)=AA (a ^^ b) l:=by
 unfold AA;rw [List.map_map];refine List.map_congr_left λx _=>?_
 simp [Function.comp,Bool.xor_assoc]
theorem IV(b:Bool)(l k:List BarR):AA b (l++k)=AA b l++AA b k:=by unfold AA;simp
theorem FF(b:Bool)(l:List BarR):(AA b l).length=l.length:=by unfold AA;simp
def Cy:Nat→List BarR→List BarR
 | 0,_=>[]
 | n+1,l=>l++Cy n l
theorem PY(n:Nat)(l:List BarR):(Cy n l).length=n*l.length:=by
 induction n with
 | zero=>simp [Cy]
 | succ n ih=>rw [Cy,List.length_append,ih,Nat.succ_mul,Nat.add_comm]
theorem O0(b:Bool)(n:Nat)(l:List BarR):AA b (Cy n l)=Cy n (AA b l):=by
 induction n with
 | zero=>rfl
 | succ n ih=>rw [Cy,Cy,IV,ih]
def itB(f:Nm→Int)(F:Int→List BarR)(k n:Int)(un:Nm)(ma:Option Addr)(mc:Nat)(ms:List Mov)(inner:List BarR):List BarR :=
 if k=1 then [⟨ma,mc,ms,false⟩] else if k=2 then Cy n.toNat inner else if k=3 then AA true inner else if k=4 then F (f un) else []
def Lt.bars(f:Nm→Int)(F:Int→List BarR):Lt→List BarR
 | .nil=>[]
 | .cons k n un _ _ its ma mc ms r=>itB f F k n un ma mc ms (its.bars f F)++r.bars f F
theorem Lt.bars_congr(f:Nm→Int)(F G:Int→List BarR):∀T:Lt,(∀u∈T.strip.uses f,F u=G u)→T.bars f F=T.bars f G
 | .nil,_=>rfl
 | .cons k n un ia ic its ma mc ms r,h=>by
  unfold Lt.bars itB;rw [its.bars_congr f F G (λu hu=>h u (by simp [Lt.strip,Its.uses,hu])),r.bars_congr f F G (λu hu=>h u (by simp [Lt.strip,Its.uses,hu]))]
  have e:(if k=4 then F (f un) else [])=if k=4 then G (f un) else []:=by
   split
   ·rename_i hk
    exact h (f un) (by simp [Lt.strip,Its.uses,hk])
   ·rfl
  rw [e]
theorem DI(f:Nm→Int)(len:Int→Int)(F:Int→List BarR):∀(T:Lt) (n:Int),T.strip.exB=true→(∀u∈T.strip.uses f,len u=min ((F u).length:Int) 4097)→0≤n→n≤4097→T.strip.sumF f len n=min (n+(T.bars f F).length) 4097
 | .nil,n,_,_,h0,h1=>by simp only [Lt.strip,Its.sumF,Lt.bars,List.length_nil];omega
 | .cons k nn un ia ic its ma mc ms r,n,hx,hu,h0,h1=>by
  have hA:(Its.cons k nn un its.strip ms r.strip).exB=true:=hx;obtain ⟨hn,hi,hr⟩:=Its.exB_parts hA;have ihi:=DI f len F its 0 hi (λu h=>hu u (by simp [Lt.strip,Its.uses,h])) (by omega) (by omega);rw [Int.zero_add] at ihi;simp only [Lt.strip,Its.sumF,Lt.bars,List.length_append]
  have hv:∃v:Int,(if k=1 then 1 else if k=2 then nn*its.strip.sumF f len 0 else if k=3 then its.strip.sumF f len 0 else if k=4 then len (f un) else 0)=v∧0≤v∧min (n+v) 4097=min (n+((itB f F k nn un ma mc ms (its.bars f F)).length:Int)) 4097:=by
   refine ⟨_,rfl,?_⟩;unfold itB
   split
   ·simp
   ·split
    ·rename_i _ h2
     subst h2;obtain ⟨k1,k2⟩:=Fm hn;rw [ihi,PY];obtain ⟨m,rfl⟩:∃m:Nat,nn=m:=⟨nn.toNat,by omega⟩;rw [Int.toNat_natCast];by_cases hL:((its.bars f F).length:Int)≤4097
     ·rw [Int.min_eq_left hL]
      refine ⟨Int.mul_nonneg (by omega) (by omega),by rw [Int.natCast_mul]⟩
     ·rw [Int.min_eq_right (by omega)]
      have a1:(1:Int)*4097≤(m:Int)*4097:=Int.mul_le_mul_of_nonneg_right k1 (by omega);have a2:(m:Int)*4097≤(m:Int)*((its.bars f F).length:Int):=Int.mul_le_mul_of_nonneg_left (by omega) (by omega);rw [Int.natCast_mul];omega
    ·split
     ·rw [ihi,FF];omega
     ·split
      ·rename_i h4
       rw [hu (f un) (by simp [Lt.strip,Its.uses,h4])];omega
      ·simp
  obtain ⟨v,e1,e2,e3⟩:=hv;rw [e1,DI f len F r _ hr (λu h=>hu u (by simp [Lt.strip,Its.uses,h])) (by omega) (by omega)];omega
def Ju(L:List Lt)(f:Nm→Int):Nat→Int→List BarR
 | 0,_=>[]
 | d+1,k=>if 0≤k then (match L[k.toNat]? with
  | some t=>t.bars f (Ju L f d)
  | none=>[]) else []
def Jt(L:List Lt)(f:Nm→Int):Int→List BarR:=Ju L f L.length
theorem Fb{L:List Lt}{f:Nm→Int}{d j:Nat}{t:Lt}(h:L[j]?=some t):Ju L f (d+1) j=t.bars f (Ju L f d):=by
 unfold Ju;rw [if_pos (by omega),Int.toNat_natCast,h]
theorem Na{L:List Lt}{f:Nm→Int}{rk:Nat→Nat}(hd:∀(j:Nat) (t:Lt),L[j]?=some t→∀u∈t.strip.uses f,∃i:Nat,u=i∧i<L.length∧rk i<rk j):∀(z j d d':Nat),rk j≤z→rk j<d→rk j<d'→j<L.length→Ju L f d j=Ju L f d' j:=by
 intro z
 induction z with
 | zero =>
  intro j d d' hz h1 h2 hj;obtain ⟨t,ht⟩:∃t,L[j]?=some t:=⟨_,qg hj⟩;obtain ⟨d,rfl⟩:∃e,d=e+1:=⟨d-1,by omega⟩;obtain ⟨d',rfl⟩:∃e,d'=e+1:=⟨d'-1,by omega⟩;rw [Fb ht,Fb ht];exact t.bars_congr f _ _ (λu hu=>by obtain ⟨i,rfl,hi,hr⟩:=hd j t ht u hu;omega)
 | succ z ih =>
  intro j d d' hz h1 h2 hj;obtain ⟨t,ht⟩:∃t,L[j]?=some t:=⟨_,qg hj⟩;obtain ⟨d,rfl⟩:∃e,d=e+1:=⟨d-1,by omega⟩;obtain ⟨d',rfl⟩:∃e,d'=e+1:=⟨d'-1,by omega⟩;rw [Fb ht,Fb ht]
  exact t.bars_congr f _ _ (λu hu=>by
   obtain ⟨i,rfl,hi,hr⟩:=hd j t ht u hu
   exact ih i d d' (by omega) (by omega) (by omega) hi)
def Ls.ltsL(s:Ls):List Lt:=s.phrases.map λp=>p.its
structure BarOk(s:Ls)(f:Nm→Int)(rk:Nat→Nat)(len:Int→Int)(B:Int→List BarR):Prop where
 lenOk:LenOk s.phrases f rk len
 fix:∀(j:Nat) (p:Ph),s.phrases[j]?=some p→B j=p.its.bars f B
 num:∀j:Nat,j<s.phrases.length→len j=min ((B j).length:Int) 4097
theorem OF{s:Ls}{f:Nm→Int}{len:Int→Int}(h:LenOk s.phrases f (Cz (s.nexts f)) len)(hr:BG (s.nexts f)=[]):BarOk s f (Cz (s.nexts f)) len (Jt s.ltsL f):=by
 have hl:s.ltsL.length=s.phrases.length:=by simp [Ls.ltsL]
 have hk:(s.nexts f).length=s.phrases.length:=by simp [Ls.nexts]
 have hA:∀(j:Nat) (p:Ph),s.phrases[j]?=some p→s.ltsL[j]?=some p.its:=λj p h=>by unfold Ls.ltsL;rw [List.getElem?_map,h];rfl
 have hC:∀(j:Nat) (t:Lt),s.ltsL[j]?=some t→∀u∈t.strip.uses f,∃i:Nat,u=i∧i<s.ltsL.length∧Cz (s.nexts f) i<Cz (s.nexts f) j:=λj t ht u hm=>by
  have hj:=(ql.1 ht).1;obtain ⟨p,hp⟩:∃p,s.phrases[j]?=some p:=⟨_,qg (by rw [← hl];exact hj)⟩;have:=hA j p hp;rw [ht] at this;cases this;rw [hl];exact h.down j p hp u hm
 have hD:∀i,i<s.phrases.length→Cz (s.nexts f) i<s.phrases.length:=λi hi=>by
  have:=MW hr (j:=i) (by rw [hk];exact hi)
  rwa [hk] at this
 have fix:∀(j:Nat) (p:Ph),s.phrases[j]?=some p→Jt s.ltsL f j=p.its.bars f (Jt s.ltsL f):=λj p hp=>by
  have hj:=(ql.1 hp).1;unfold Jt;obtain ⟨e,he⟩:∃e,s.ltsL.length=e+1:=⟨s.ltsL.length-1,by omega⟩;rw [he,Fb (hA j p hp)];refine Lt.bars_congr f _ _ _ (λu hm=>?_);obtain ⟨i,rfl,hi,hB⟩:=h.down j p hp u hm;have:=hD j hj;exact Na hC _ i e (e+1) (qn _) (by omega) (by omega) (by omega)
 refine ⟨h,fix,?_⟩
 have key:∀(z j:Nat),Cz (s.nexts f) j≤z→j<s.phrases.length→len j=min ((Jt s.ltsL f j).length:Int) 4097:=by
  intro z
  induction z with
  | zero =>
   intro j hz hj;obtain ⟨p,hp⟩:∃p,s.phrases[j]?=some p:=⟨_,qg hj⟩;rw [h.fix j p hp,fix j p hp,DI f len (Jt s.ltsL f) p.its 0 (h.ex j p hp) (λu hu=>by obtain ⟨i,rfl,hi,hB⟩:=h.down j p hp u hu;omega) (by omega) (by omega)];omega
  | succ z ih =>
   intro j hz hj;obtain ⟨p,hp⟩:∃p,s.phrases[j]?=some p:=⟨_,qg hj⟩;rw [h.fix j p hp,fix j p hp,DI f len (Jt s.ltsL f) p.its 0 (h.ex j p hp) (λu hu=>by obtain ⟨i,rfl,hi,hB⟩:=h.down j p hp u hu;exact ih i (by omega) hi) (by omega) (by omega)];omega
 exact λj hj=>key _ j (qn _) hj
end
section
open Go Go.RowKit
theorem Oe(w:World):(Instr.typeAssert (.iface 113 (.agg #[])) 20 113 true).run Tryz.prog w=.ok (.tuple #[.agg #[],.bool true]) w:=by kernel_rfl
theorem KW(w:World):(binOp .eql 20 (.iface 113 (.agg #[])) .nilIface).run Tryz.prog w=.ok (.bool false) w:=by kernel_rfl
theorem KS(p:Addr)(w:World) :
  CallsD Tryz.prog 55 #[.pointer (some p)] .returning w λe u' w'=>e=.returned (.tuple #[])∧u'=.returning∧w=w':=by
 refine callsD_of_wpS Tryz.func55 rfl λc₀ cs hu=>?_
 apply wpS_seq;apply wpS_region;simp [wpOpsS,go_sem,recoverD,hu,Tryz.ntmps55,Exit.thenS];refine wpS_of_wp ?_;simp only [Array.replicate];go_wp2;cases c₀
 simp_all [bodyPostS,results,Tryz.results55]
theorem FL(B:Nat)(x:Value)(w:World)(h0:w.heap[B]?=some (.cells #[x] 40 (0,0))) :
  CallsD Tryz.prog 55 #[.pointer (some ⟨B,0,none⟩)] (.panicking [{ v:=.iface 113 (.agg #[]),recovered:=false }]) w λe u' w' =>
   e=.returned (.tuple #[])∧u'=.panicking [{ v:=.iface 113 (.agg #[]),recovered:=true }]∧w'.heap[B]?=some (.cells #[int i64 180] 40 (0,0))∧Below B w w':=by
 obtain ⟨V,hV,_,bV,_⟩:=Af w #[] 113;have h1:=Ah bV h0;have c0:=cell_of_one h1;have f0:=free_of_one h1;have H0:=qh h1;have HB:=qh bV;have hA:Hid (B<w.heap.size):=qh (qs.1 h0).1;clear h0 h1 bV;refine callsD_of_wpS Tryz.func55 rfl λc₀ cs hu=>?_
 apply wpS_seq;apply wpS_region;simp [wpOpsS,go_sem,recoverD,hu,Tryz.ntmps55,Exit.thenS];refine wpS_of_wp ?_;have hB:=Oe;have hC:=KW;simp only [Array.replicate];go_wp2;exact ⟨rfl,_,rfl,.tuple #[],results_none rfl _ _ _,rfl,rfl,one_setCell H0.out,(HB.out.mono (Nat.le_of_lt hA.out)).setCell (p:=⟨B,0,none⟩) (qn _) _⟩
abbrev DM(E:Nat):Deferred:={ target:=.fn (.func 55) #[.pointer (some ⟨E,0,none⟩)],args:=#[] }
theorem NZ(t:Array Value)(B:Nat)(R:Ending→World→Prop)(w2:World)(x:Value)(hA:t.getD 2 undef=.pointer (some ⟨B,0,none⟩))
  (h0:w2.heap[B]?=some (.cells #[x] 40 (0,0))) (hR:∀w',Below B w2 w'→R (.returned (int i64 180)) w') :
  bodyPostD Tryz.prog Tryz.f20 R (Exit.panic BN)
   { tmps:=t,defers:=[DM B] } w2:=by
 have HR:=qh hR;clear hR;refine leaves_cons (f:=55) (args:=#[.pointer (some ⟨B,0,none⟩)]) (by simp) (by simp [go_sem]) ?_;refine (FL B x _ h0).mono ?_;rintro e u' w'' ⟨rfl,rfl,k0,hB⟩;have c0:=cell_of_one k0;simp at hA;have HB:=qh hB;clear hB k0 h0;simp [Leaves,settle,results,Tryz.results20,go_sem,hA,c0];exact HR.out _ HB.out
theorem PW(t:Array Value)(B:Nat)(R:Ending→World→Prop)(w2:World)(x:Value)(hA:t.getD 2 undef=.pointer (some ⟨B,0,none⟩))
  (h0:w2.cell? ⟨B,0,none⟩=some x) (hR:R (.returned x) w2) :
  bodyPostD Tryz.prog Tryz.f20 R Exit.ret { tmps:=t,defers:=[DM B] } w2:=by
 have HR:=qh hR;clear hR;simp at hA;refine leaves_cons (f:=55) (args:=#[.pointer (some ⟨B,0,none⟩)]) (by simp) (by simp [go_sem]) ?_;refine (KS _ _).mono ?_;rintro e u' w'' ⟨rfl,rfl,rfl⟩;simp [Leaves,settle,results,Tryz.results20,go_sem,hA,h0];exact HR.out
theorem GL{α:Type}{l:List α}{p:α→Prop}{i:Nat}{x:α}(h:∀y∈l.take i,p y)(hx:l[i]?=some x)(hp:p x):∀y∈l.take (i+1),p y:=by
 intro y hy;rw [List.take_add_one,hx] at hy;rcases List.mem_append.1 hy with hy|hy
 ·exact h y hy
 ·simp at hy;subst hy;exact hp
theorem D8{n lo hi:Int}{v:Bool}(h:inB n lo hi=v)(w:World):Calls Tryz.prog 57 #[int i64 n,int i64 lo,int i64 hi] w λe w'=>e=.returned (.bool v)∧w=w':=by
 rw [← h];exact Bs n lo hi w
theorem O9{s:Ls}{W:World}(h:s.At W){i:Nat}{x:Rol}(hi:s.roles[i]?=some x):∃b o,s.ra=some ⟨b,o,none⟩∧W.cell? ⟨b,o+i*4,none⟩=some (sv x.name)∧W.cell? ⟨b,o+i*4+1,none⟩=some (int i64 x.x)∧W.cell? ⟨b,o+i*4+2,none⟩=some (int i64 x.y)∧W.cell? ⟨b,o+i*4+3,none⟩=some (int i64 x.face):=by
 obtain ⟨b,o,h1,h2,_⟩:=h.roles.block hi;exact ⟨b,o,h1,h2 i x hi 0 _ rfl,h2 i x hi 1 _ rfl,h2 i x hi 2 _ rfl,h2 i x hi 3 _ rfl⟩
noncomputable def AC:Code:=(Tryz.f20.body).getD .skip
noncomputable def OT:Code:=qe 0 AC
noncomputable def OU:Code:=qe 1 AC
noncomputable def OV:Code:=qe 2 AC
noncomputable def elem29n3:Code:=qe 3 AC
noncomputable def elem29n4:Code:=qe 4 AC
noncomputable def elem29n5:Code:=qe 5 AC
noncomputable def elem29n6:Code:=qe 6 AC
noncomputable def elem29n7:Code:=qe 7 AC
noncomputable def elem29n8:Code:=qe 8 AC
noncomputable def elem29n9:Code:=qe 9 AC
noncomputable def elem29n10:Code:=qe 10 AC
theorem RQ:AC=.seq OT (Ab 1 AC):=rfl
theorem RR:Ab 1 AC=.seq OU (Ab 2 AC):=rfl
theorem RT:Ab 2 AC=.seq OV (Ab 3 AC):=rfl
theorem RU:Ab 3 AC=.seq elem29n3 (Ab 4 AC):=rfl
theorem RV:Ab 4 AC=.seq elem29n4 (Ab 5 AC):=rfl
theorem RW:Ab 5 AC=.seq elem29n5 (Ab 6 AC):=rfl
theorem RX:Ab 6 AC=.seq elem29n6 (Ab 7 AC):=rfl
theorem RY:Ab 7 AC=.seq elem29n7 (Ab 8 AC):=rfl
theorem RZ:Ab 8 AC=.seq elem29n8 (Ab 9 AC):=rfl
theorem S0:Ab 9 AC=.seq elem29n9 (Ab 10 AC):=rfl
theorem Uh(s:Ls)(f:Nm→Int)(B E:Nat)(w W:World)(hs:RgS s f B w)(hb:Below w.heap.size w W)(ds:List Deferred)(Q:Exit→Act→World→Prop)
  (hN:(inB s.wd 1 1000&&inB s.dp 1 1000)=true→∀(x0 x3 x4 x5 x6 x7 x8 x9 bl bm bn bo bp bq br bs bt bu bv bw bx bz bA bB bC bD bE bF bG bH bI bJ bK bL bM bN bO bP bQ bR bS bT bU bV bW bY bZ ca cb cc cd ce cf cg ch ci cj ck cm cn co cp cq cr cs ct cu cv cw cx cy cz cA cB cC cD cE cF cG cH cI cJ cK cL cM cN cO cP cQ cR cS cT cU cV cW cX cY cZ da db dc dd de df dg dh di dj dk dl dm dn dq dr dt du dv dw dx dy:Value) (V:World),Below w.heap.size w V→Q .normal { tmps:=#[x0,.pointer (some ⟨B,0,none⟩),.pointer (some ⟨E,0,none⟩),x3,x4,x5,x6,x7,x8,x9,bl,bm,bn,bo,bp,bq,br,bs,bt,bu,bv,bw,bx,bz,bA,bB,bC,bD,bE,bF,bG,bH,bI,bJ,bK,bL,bM,bN,bO,bP,bQ,bR,bS,bT,bU,bV,bW,bY,bZ,ca,cb,cc,cd,ce,cf,cg,ch,ci,cj,ck,cm,cn,co,cp,cq,cr,cs,ct,cu,cv,cw,cx,cy,cz,cA,cB,cC,cD,cE,cF,cG,cH,cI,cJ,cK,cL,cM,cN,cO,cP,cQ,cR,cS,cT,cU,cV,cW,cX,cY,cZ,da,db,dc,dd,de,df,dg,dh,di,dj,dk,dl,dm,dn,dq,dr,dt,du,dv,dw,dx,dy],defers:=ds } V)
  (hP:(inB s.wd 1 1000&&inB s.dp 1 1000)=false→∀(t:Array Value) (V:World),t.getD 2 undef=.pointer (some ⟨E,0,none⟩)→Below w.heap.size w V→Q (.panic BN) { tmps:=t,defers:=ds } V) :
  elem29n3.wp Tryz.prog Q { tmps:=#[e0,.pointer (some ⟨B,0,none⟩),.pointer (some ⟨E,0,none⟩),e3,e4,e5,e6,e7,e8,e9,ea,eb,ec,ed,ee,ef,eg,eh,ei,ej,ek,el,em,en,eo,ep,eq,er,es,et,eu,ev,ew,ex,ey,ez,eA,eB,eC,eD,eE,eF,eG,eH,eI,eJ,eK,eL,eM,eN,eO,eP,eQ,eR,eS,eT,eU,eV,eW,eX,eY,eZ,aa,ab,ac,ae,af,ag,ah,ai,aj,ak,al,am,an,ao,ap,aq,ar,au,av,aw,ax,ay,az,aA,aB,aC,aD,aE,aF,aG,aH,aI,aJ,aK,aL,aM,aN,aO,aP,aQ,aR,aS,aT,aU,aV,aW,aX,aY,aZ,ba,bb,bc,bd,be,bf,bg,bh,bi,bj,bk],defers:=ds } W:=by
 have hS:=hs.below hb;have y1:W.cell? ⟨B,1,none⟩=some (int i64 s.wd):=Aa hS.box 1 rfl;have y2:W.cell? ⟨B,2,none⟩=some (int i64 s.dp):=Aa hS.box 2 rfl;have HN:=qh hN;have HP:=qh hP;have HB:=qh hb;clear hN hP hb hS hs
 cases hA:inB s.wd 1 1000 with
 | false =>
  have HC:Hid ((inB s.wd 1 1000&&inB s.dp 1 1000)=false):=qh (by rw [hA];rfl)
  conv=>arg 2;whnf
  go_wp2_with (first|(go_at_call 57;refine (D8 (by assumption) _).mono ?_;rintro e w2 ⟨rfl,rfl⟩)|(go_at_call 56;first|(refine (An _).mono ?_;rintro e w2 ⟨rfl,rfl⟩)|(refine (Al _).mono ?_;unfold Ai;rintro e w2 ⟨rfl,rfl⟩)));exact HP.out HC.out _ _ rfl HB.out
 | true =>
  cases hB:inB s.dp 1 1000 with
  | false =>
   have HC:Hid ((inB s.wd 1 1000&&inB s.dp 1 1000)=false):=qh (by rw [hA,hB];rfl)
   conv=>arg 2;whnf
   go_wp2_with (first|(go_at_call 57;refine (D8 (by assumption) _).mono ?_;rintro e w2 ⟨rfl,rfl⟩)|(go_at_call 56;first|(refine (An _).mono ?_;rintro e w2 ⟨rfl,rfl⟩)|(refine (Al _).mono ?_;unfold Ai;rintro e w2 ⟨rfl,rfl⟩)));exact HP.out HC.out _ _ rfl HB.out
  | true =>
   have HC:Hid ((inB s.wd 1 1000&&inB s.dp 1 1000)=true):=qh (by rw [hA,hB];rfl)
   conv=>arg 2;whnf
   go_wp2_with (first|(go_at_call 57;refine (D8 (by assumption) _).mono ?_;rintro e w2 ⟨rfl,rfl⟩)|(go_at_call 56;first|(refine (An _).mono ?_;rintro e w2 ⟨rfl,rfl⟩)|(refine (Al _).mono ?_;unfold Ai;rintro e w2 ⟨rfl,rfl⟩)));exact HN.out HC.out _ _ _ _ _ _ _ _ _ _ _ _ _ _ _ _ _ _ _ _ _ _ _ _ _ _ _ _ _ _ _ _ _ _ _ _ _ _ _ _ _ _ _ _ _ _ _ _ _ _ _ _ _ _ _ _ _ _ _ _ _ _ _ _ _ _ _ _ _ _ _ _ _ _ _ _ _ _ _ _ _ _ _ _ _ _ _ _ _ _ _ _ _ _ _ _ _ _ _ _ _ _ _ _ _ _ _ _ _ _ _ _ _ _ _ _ _ _ _ _ _ HB.out
theorem Ui(s:Ls)(f:Nm→Int)(B E:Nat)(w W:World)(hs:RgS s f B w)(hb:Below w.heap.size w W)(ds:List Deferred)(Q:Exit→Act→World→Prop)
  (hN:(inB s.t0 1 127&&inB s.t1 0 s.t0)=true→∀(x0 x3 x4 x5 x6 x7 x8 x9 bl bm bn bo bp bq br bs bt bu bv bw bx bz bA bB bC bD bE bF bG bH bI bJ bK bL bM bN bO bP bQ bR bS bT bU bV bW bY bZ ca cb cc cd ce cf cg ch ci cj ck cm cn co cp cq cr cs ct cu cv cw cx cy cz cA cB cC cD cE cF cG cH cI cJ cK cL cM cN cO cP cQ cR cS cT cU cV cW cX cY cZ da db dc dd de df dg dh di dj dk dl dm dn dp dq dr dt du dv dw dx:Value) (V:World),Below w.heap.size w V→Q .normal { tmps:=#[x0,.pointer (some ⟨B,0,none⟩),.pointer (some ⟨E,0,none⟩),x3,x4,x5,x6,x7,x8,x9,bl,bm,bn,bo,bp,bq,br,bs,bt,bu,bv,bw,bx,bz,bA,bB,bC,bD,bE,bF,bG,bH,bI,bJ,bK,bL,bM,bN,bO,bP,bQ,bR,bS,bT,bU,bV,bW,bY,bZ,ca,cb,cc,cd,ce,cf,cg,ch,ci,cj,ck,cm,cn,co,cp,cq,cr,cs,ct,cu,cv,cw,cx,cy,cz,cA,cB,cC,cD,cE,cF,cG,cH,cI,cJ,cK,cL,cM,cN,cO,cP,cQ,cR,cS,cT,cU,cV,cW,cX,cY,cZ,da,db,dc,dd,de,df,dg,dh,di,dj,dk,dl,dm,dn,dp,dq,dr,dt,du,dv,dw,dx],defers:=ds } V)
  (hP:(inB s.t0 1 127&&inB s.t1 0 s.t0)=false→∀(t:Array Value) (V:World),t.getD 2 undef=.pointer (some ⟨E,0,none⟩)→Below w.heap.size w V→Q (.panic BN) { tmps:=t,defers:=ds } V) :
  elem29n4.wp Tryz.prog Q { tmps:=#[e0,.pointer (some ⟨B,0,none⟩),.pointer (some ⟨E,0,none⟩),e3,e4,e5,e6,e7,e8,e9,ea,eb,ec,ed,ee,ef,eg,eh,ei,ej,ek,el,em,en,eo,ep,eq,er,es,et,eu,ev,ew,ex,ey,ez,eA,eB,eC,eD,eE,eF,eG,eH,eI,eJ,eK,eL,eM,eN,eO,eP,eQ,eR,eS,eT,eU,eV,eW,eX,eY,eZ,aa,ab,ac,ae,af,ag,ah,ai,aj,ak,al,am,an,ao,ap,aq,ar,au,av,aw,ax,ay,az,aA,aB,aC,aD,aE,aF,aG,aH,aI,aJ,aK,aL,aM,aN,aO,aP,aQ,aR,aS,aT,aU,aV,aW,aX,aY,aZ,ba,bb,bc,bd,be,bf,bg,bh,bi,bj,bk],defers:=ds } W:=by
 have hS:=hs.below hb;have y1:W.cell? ⟨B,4,none⟩=some (int i64 s.t0):=Aa hS.box 4 rfl;have y2:W.cell? ⟨B,5,none⟩=some (int i64 s.t1):=Aa hS.box 5 rfl;have HN:=qh hN;have HP:=qh hP;have HB:=qh hb;clear hN hP hb hS hs
 cases hA:inB s.t0 1 127 with
 | false =>
  have HC:Hid ((inB s.t0 1 127&&inB s.t1 0 s.t0)=false):=qh (by rw [hA];rfl)
  conv=>arg 2;whnf
  go_wp2_with (first|(go_at_call 57;refine (D8 (by assumption) _).mono ?_;rintro e w2 ⟨rfl,rfl⟩)|(go_at_call 56;first|(refine (An _).mono ?_;rintro e w2 ⟨rfl,rfl⟩)|(refine (Al _).mono ?_;unfold Ai;rintro e w2 ⟨rfl,rfl⟩)));exact HP.out HC.out _ _ rfl HB.out
 | true =>
  cases hB:inB s.t1 0 s.t0 with
  | false =>
   have HC:Hid ((inB s.t0 1 127&&inB s.t1 0 s.t0)=false):=qh (by rw [hA,hB];rfl)
   conv=>arg 2;whnf
   go_wp2_with (first|(go_at_call 57;refine (D8 (by assumption) _).mono ?_;rintro e w2 ⟨rfl,rfl⟩)|(go_at_call 56;first|(refine (An _).mono ?_;rintro e w2 ⟨rfl,rfl⟩)|(refine (Al _).mono ?_;unfold Ai;rintro e w2 ⟨rfl,rfl⟩)));exact HP.out HC.out _ _ rfl HB.out
  | true =>
   have HC:Hid ((inB s.t0 1 127&&inB s.t1 0 s.t0)=true):=qh (by rw [hA,hB];rfl)
   conv=>arg 2;whnf
   go_wp2_with (first|(go_at_call 57;refine (D8 (by assumption) _).mono ?_;rintro e w2 ⟨rfl,rfl⟩)|(go_at_call 56;first|(refine (An _).mono ?_;rintro e w2 ⟨rfl,rfl⟩)|(refine (Al _).mono ?_;unfold Ai;rintro e w2 ⟨rfl,rfl⟩)));exact HN.out HC.out _ _ _ _ _ _ _ _ _ _ _ _ _ _ _ _ _ _ _ _ _ _ _ _ _ _ _ _ _ _ _ _ _ _ _ _ _ _ _ _ _ _ _ _ _ _ _ _ _ _ _ _ _ _ _ _ _ _ _ _ _ _ _ _ _ _ _ _ _ _ _ _ _ _ _ _ _ _ _ _ _ _ _ _ _ _ _ _ _ _ _ _ _ _ _ _ _ _ _ _ _ _ _ _ _ _ _ _ _ _ _ _ _ _ _ _ _ _ _ _ _ HB.out
def C6(s:Ls)(x:Rol):Bool:=(inB x.x 0 s.wd&&(inB x.y 0 s.dp&&inB x.face 0 7))
theorem Uj(s:Ls)(f:Nm→Int)(B E:Nat)(w W:World)(hs:RgS s f B w)(hb:Below w.heap.size w W)(_hl:s.roles.length≤100000)(ds:List Deferred)(Q:Exit→Act→World→Prop)
  (hN:s.roles.all (C6 s)=true→∀(x0 x3 x4 x5 x6 x7 x8 x9 bl bm bn bo bp bq br bs bt bu bv bw bx bz bA bB bC bD bE bF bG bH bI bJ bK bL bM bN bO bP bQ bR bS bT bU bV bW bY bZ ca cb cc cd ce cf cg ch ci cj ck cm cn co cp cq cr cs ct cu cv cw cx cy cz cA cB cC cD cE cF cG cH cI cJ cK cL cM cN cO cP cQ cR cS cT cU cV cW cX cY cZ da db dc dd de df dg dh di dj dk dl dm dn dq dr dt du dv dw dx dy:Value) (V:World),Below w.heap.size w V→Q .normal { tmps:=#[x0,.pointer (some ⟨B,0,none⟩),.pointer (some ⟨E,0,none⟩),x3,x4,x5,x6,x7,x8,x9,bl,bm,bn,bo,bp,bq,br,bs,bt,bu,bv,bw,bx,bz,bA,bB,bC,bD,bE,bF,bG,bH,bI,bJ,bK,bL,bM,bN,bO,bP,bQ,bR,bS,bT,bU,bV,bW,bY,bZ,ca,cb,cc,cd,ce,cf,cg,ch,ci,cj,ck,cm,cn,co,cp,cq,cr,cs,ct,cu,cv,cw,cx,cy,cz,cA,cB,cC,cD,cE,cF,cG,cH,cI,cJ,cK,cL,cM,cN,cO,cP,cQ,cR,cS,cT,cU,cV,cW,cX,cY,cZ,da,db,dc,dd,de,df,dg,dh,di,dj,dk,dl,dm,dn,dq,dr,dt,du,dv,dw,dx,dy],defers:=ds } V)
  (hP:s.roles.all (C6 s)=false→∀(t:Array Value) (V:World),t.getD 2 undef=.pointer (some ⟨E,0,none⟩)→Below w.heap.size w V→Q (.panic BN) { tmps:=t,defers:=ds } V) :
  elem29n5.wp Tryz.prog Q { tmps:=#[e0,.pointer (some ⟨B,0,none⟩),.pointer (some ⟨E,0,none⟩),e3,e4,e5,e6,e7,e8,e9,ea,eb,ec,ed,ee,ef,eg,eh,ei,ej,ek,el,em,en,eo,ep,eq,er,es,et,eu,ev,ew,ex,ey,ez,eA,eB,eC,eD,eE,eF,eG,eH,eI,eJ,eK,eL,eM,eN,eO,eP,eQ,eR,eS,eT,eU,eV,eW,eX,eY,eZ,aa,ab,ac,ae,af,ag,ah,ai,aj,ak,al,am,an,ao,ap,aq,ar,au,av,aw,ax,ay,az,aA,aB,aC,aD,aE,aF,aG,aH,aI,aJ,aK,aL,aM,aN,aO,aP,aQ,aR,aS,aT,aU,aV,aW,aX,aY,aZ,ba,bb,bc,bd,be,bf,bg,bh,bi,bj,bk],defers:=ds } W:=by
 have hS:=hs.below hb;have y6:W.cell? ⟨B,6,none⟩=some (.slice s.ra s.roles.length s.rc):=Aa hS.box 6 rfl;have HN:=qh hN;have HP:=qh hP;have HB:=qh hb;have HS:=qh hs;clear hN hP hb hS hs;generalize hn:s.roles.length=n at *;have hG:=qh hn;clear hn
 conv=>arg 2;whnf
 go_wp2_with fail;go_loopw [42] (λiv wr=>∃i:Nat,iv=int i64 i∧i≤n∧Hid (∀x∈s.roles.take i,C6 s x=true)∧Hid (Below w.heap.size w wr)) (λiv _=>n+1-(intOf iv).toNat)
 case atStart=>exact ⟨0,rfl,Nat.zero_le _,qh (by simp),HB⟩
 case round =>
  obtain ⟨i,rfl,hL,hH,hB⟩:=hrel;by_cases hK:i<n
  ·have hi:(i:Int)<(n:Int):=by omega
   obtain ⟨x,hx⟩:∃x,s.roles[i]?=some x:=⟨_,qg (by rw [hG.out];exact hK)⟩;have hC:=HS.out.below hB.out;obtain ⟨b,o,e,c0,c1,c2,c3⟩:=O9 hC.at_ hx;have y1:wr.cell? ⟨B,1,none⟩=some (int i64 s.wd):=Aa hC.box 1 rfl;have y2:wr.cell? ⟨B,2,none⟩=some (int i64 s.dp):=Aa hC.box 2 rfl;obtain ⟨W2,hM,gW2,bW2,sW2⟩:=Af wr #[sv x.name,int i64 x.x,int i64 x.y,int i64 x.face] 73;have z1:=Aa gW2 1 rfl;have z2:=Aa gW2 2 rfl;have z3:=Aa gW2 3 rfl;have v1:=Ad bW2 y1;have v2:=Ad bW2 y2;have HX:=qh hx;have hD:=qh (Ag hB.out bW2);obtain ⟨r,hr⟩:∃r,C6 s x=r:=⟨_,rfl⟩;have HR:=qh hr;generalize hI:s.ra=ra at *;subst e;have hO:=qh hI;clear hx hC gW2 bW2 sW2 hI hr
   cases hE:inB x.x 0 s.wd with
   | false =>
    have hc:C6 s x=false:=by unfold C6;rw [hE];rfl
    have hA:s.roles.all (C6 s)=false:=by
     rw [← Bool.not_eq_true,List.all_eq_true];intro h;rw [h x (List.mem_of_getElem? HX.out)] at hc;cases hc
    have HC:=qh hA;clear hc hA
    go_wp2_with (first|(go_at_call 57;refine (D8 (by assumption) _).mono ?_;rintro e w2 ⟨rfl,rfl⟩)|(go_at_call 56;first|(refine (An _).mono ?_;rintro e w2 ⟨rfl,rfl⟩)|(refine (Al _).mono ?_;unfold Ai;rintro e w2 ⟨rfl,rfl⟩)));exact HP.out HC.out _ _ rfl hD.out
   | true =>
    cases hF:inB x.y 0 s.dp with
    | false =>
     have hc:C6 s x=false:=by unfold C6;rw [hE,hF];rfl
     have hA:s.roles.all (C6 s)=false:=by
      rw [← Bool.not_eq_true,List.all_eq_true];intro h;rw [h x (List.mem_of_getElem? HX.out)] at hc;cases hc
     have HC:=qh hA;clear hc hA
     go_wp2_with (first|(go_at_call 57;refine (D8 (by assumption) _).mono ?_;rintro e w2 ⟨rfl,rfl⟩)|(go_at_call 56;first|(refine (An _).mono ?_;rintro e w2 ⟨rfl,rfl⟩)|(refine (Al _).mono ?_;unfold Ai;rintro e w2 ⟨rfl,rfl⟩)));exact HP.out HC.out _ _ rfl hD.out
    | true =>
     cases hJ:inB x.face 0 7 with
     | false =>
      have hc:C6 s x=false:=by unfold C6;rw [hE,hF,hJ];rfl
      have hA:s.roles.all (C6 s)=false:=by
       rw [← Bool.not_eq_true,List.all_eq_true];intro h;rw [h x (List.mem_of_getElem? HX.out)] at hc;cases hc
      have HC:=qh hA;clear hc hA
      go_wp2_with (first|(go_at_call 57;refine (D8 (by assumption) _).mono ?_;rintro e w2 ⟨rfl,rfl⟩)|(go_at_call 56;first|(refine (An _).mono ?_;rintro e w2 ⟨rfl,rfl⟩)|(refine (Al _).mono ?_;unfold Ai;rintro e w2 ⟨rfl,rfl⟩)));exact HP.out HC.out _ _ rfl hD.out
     | true =>
      have hc:C6 s x=true:=by unfold C6;rw [hE,hF,hJ];rfl
      have HC:=qh hc;clear hc
      go_wp2_with (first|(go_at_call 57;refine (D8 (by assumption) _).mono ?_;rintro e w2 ⟨rfl,rfl⟩)|(go_at_call 56;first|(refine (An _).mono ?_;rintro e w2 ⟨rfl,rfl⟩)|(refine (Al _).mono ?_;unfold Ai;rintro e w2 ⟨rfl,rfl⟩)));go_roundw
      case rel=>exact ⟨i+1,by go_num,by omega,qh (GL hH.out HX.out HC.out),hD⟩
      case measure=>simp [intOf];omega
  ·have:i=n:=by omega
   subst this;have hz:¬(i:Int)<(i:Int):=by omega
   have hA:s.roles.all (C6 s)=true:=List.all_eq_true.2 (λx hx=>hH.out x (by rw [List.take_of_length_le (by rw [hG.out];exact qn _)];exact hx));have HC:=qh hA;clear hA;go_wp2_with fail;exact HN.out HC.out _ _ _ _ _ _ _ _ _ _ _ _ _ _ _ _ _ _ _ _ _ _ _ _ _ _ _ _ _ _ _ _ _ _ _ _ _ _ _ _ _ _ _ _ _ _ _ _ _ _ _ _ _ _ _ _ _ _ _ _ _ _ _ _ _ _ _ _ _ _ _ _ _ _ _ _ _ _ _ _ _ _ _ _ _ _ _ _ _ _ _ _ _ _ _ _ _ _ _ _ _ _ _ _ _ _ _ _ _ _ _ _ _ _ _ _ _ _ _ _ _ hB.out
theorem QV(V:World):(binOp .eql 116 (.slice none 0 0) (.slice none 0 0)).run Tryz.prog V=.ok (.bool true) V:=by kernel_rfl
theorem P7(g n c:Nat)(V:World):(binOp .eql 116 (.slice (some ⟨g,0,none⟩) n c) (.slice none 0 0)).run Tryz.prog V=.ok (.bool false) V:=by kernel_rfl
theorem Uk(s:Ls)(f:Nm→Int)(B E:Nat)(w W:World)(hs:RgS s f B w)(hb:Below w.heap.size w W)(ds:List Deferred)(Q:Exit→Act→World→Prop)
  (hN:decide (C8 ⟨s.bars,s.tempos,s.pauses,s.spans⟩=0)=true→∀(x0 x3 x4 x5 x6 x7 x8 x9 bl bm bn bo bp bq br bs bt bu bv bw bx bz bA bB bC bD bE bF bG bH bI bJ bK bL bM bN bO bP bQ bR bS bT bU bV bW bY bZ ca cb cc cd ce cf cg ch ci cj ck cm cn co cp cq cr cs ct cu cv cw cx cy cz cA cB cC cD cE cF cG cH cI cJ cK cL cM cN cO cP cQ cR cS cT cU cV cW cX cY cZ da db dc dd de df dg dh di dj dk dl dm dn dp dq dr dt du dv dw dx:Value) (V:World),Below w.heap.size w V→Q .normal { tmps:=#[x0,.pointer (some ⟨B,0,none⟩),.pointer (some ⟨E,0,none⟩),x3,x4,x5,x6,x7,x8,x9,bl,bm,bn,bo,bp,bq,br,bs,bt,bu,bv,bw,bx,bz,bA,bB,bC,bD,bE,bF,bG,bH,bI,bJ,bK,bL,bM,bN,bO,bP,bQ,bR,bS,bT,bU,bV,bW,bY,bZ,ca,cb,cc,cd,ce,cf,cg,ch,ci,cj,ck,cm,cn,co,cp,cq,cr,cs,ct,cu,cv,cw,cx,cy,cz,cA,cB,cC,cD,cE,cF,cG,cH,cI,cJ,cK,cL,cM,cN,cO,cP,cQ,cR,cS,cT,cU,cV,cW,cX,cY,cZ,da,db,dc,dd,de,df,dg,dh,di,dj,dk,dl,dm,dn,dp,dq,dr,dt,du,dv,dw,dx],defers:=ds } V)
  (hP:decide (C8 ⟨s.bars,s.tempos,s.pauses,s.spans⟩=0)=false→∀(t:Array Value) (V:World),t.getD 2 undef=.pointer (some ⟨E,0,none⟩)→Below w.heap.size w V→Q (.panic BN) { tmps:=t,defers:=ds } V) :
  elem29n6.wp Tryz.prog Q { tmps:=#[e0,.pointer (some ⟨B,0,none⟩),.pointer (some ⟨E,0,none⟩),e3,e4,e5,e6,e7,e8,e9,ea,eb,ec,ed,ee,ef,eg,eh,ei,ej,ek,el,em,en,eo,ep,eq,er,es,et,eu,ev,ew,ex,ey,ez,eA,eB,eC,eD,eE,eF,eG,eH,eI,eJ,eK,eL,eM,eN,eO,eP,eQ,eR,eS,eT,eU,eV,eW,eX,eY,eZ,aa,ab,ac,ae,af,ag,ah,ai,aj,ak,al,am,an,ao,ap,aq,ar,au,av,aw,ax,ay,az,aA,aB,aC,aD,aE,aF,aG,aH,aI,aJ,aK,aL,aM,aN,aO,aP,aQ,aR,aS,aT,aU,aV,aW,aX,aY,aZ,ba,bb,bc,bd,be,bf,bg,bh,bi,bj,bk],defers:=ds } W:=by
 have hS:=hs.below hb;have y1:W.cell? ⟨B,3,none⟩=some (int i64 s.bars):=Aa hS.box 3 rfl;have y2:W.cell? ⟨B,7,none⟩=some (.slice s.ta s.tempos.length s.tc):=Aa hS.box 7 rfl;have y3:W.cell? ⟨B,8,none⟩=some (.slice s.ua s.pauses.length s.uc):=Aa hS.box 8 rfl;have y4:W.cell? ⟨B,9,none⟩=some (.slice s.sa s.spans.length s.sc):=Aa hS.box 9 rfl;have C:=Is s.bars s.ta s.ua s.sa s.tc s.uc s.sc s.tempos s.pauses s.spans W hS.at_.tempos hS.at_.pauses hS.at_.spans;have HN:=qh hN;have HP:=qh hP;have HB:=qh hb;obtain ⟨c,hc⟩:∃c,C8 ⟨s.bars,s.tempos,s.pauses,s.spans⟩=c:=⟨_,rfl⟩;rw [hc] at C;have HC:=qh C;have HK:=qh hc;clear hN hP hb hS hs C hc
 conv=>arg 2;whnf
 by_cases hz:c=0
 ·subst hz
  have HD:Hid (decide (C8 ⟨s.bars,s.tempos,s.pauses,s.spans⟩=0)=true):=qh (decide_eq_true HK.out)
  go_wp2_with (first|(go_at_call 49;refine HC.out.mono ?_;rintro e V ⟨rfl,hv⟩;have HV:=qh hv;clear hv)|(first|(go_at_call 57;refine (D8 (by assumption) _).mono ?_;rintro e w2 ⟨rfl,rfl⟩)|(go_at_call 56;first|(refine (An _).mono ?_;rintro e w2 ⟨rfl,rfl⟩)|(refine (Al _).mono ?_;unfold Ai;rintro e w2 ⟨rfl,rfl⟩))));exact HN.out HD.out _ _ _ _ _ _ _ _ _ _ _ _ _ _ _ _ _ _ _ _ _ _ _ _ _ _ _ _ _ _ _ _ _ _ _ _ _ _ _ _ _ _ _ _ _ _ _ _ _ _ _ _ _ _ _ _ _ _ _ _ _ _ _ _ _ _ _ _ _ _ _ _ _ _ _ _ _ _ _ _ _ _ _ _ _ _ _ _ _ _ _ _ _ _ _ _ _ _ _ _ _ _ _ _ _ _ _ _ _ _ _ _ _ _ _ _ _ _ _ _ _ (Ag HB.out HV.out)
 ·have HD:Hid (decide (C8 ⟨s.bars,s.tempos,s.pauses,s.spans⟩=0)=false):=qh (decide_eq_false (by rw [HK.out];exact hz))
  go_wp2_with (first|(go_at_call 56;refine (BO (by simpa using hz) _).mono ?_;unfold Ai;rintro e w2 ⟨rfl,rfl⟩)|(go_at_call 49;refine HC.out.mono ?_;rintro e V ⟨rfl,hv⟩;have HV:=qh hv;clear hv)|(first|(go_at_call 57;refine (D8 (by assumption) _).mono ?_;rintro e w2 ⟨rfl,rfl⟩)|(go_at_call 56;first|(refine (An _).mono ?_;rintro e w2 ⟨rfl,rfl⟩)|(refine (Al _).mono ?_;unfold Ai;rintro e w2 ⟨rfl,rfl⟩))));exact HP.out HD.out _ _ rfl (Ag HB.out HV.out)
theorem Ul(s:Ls)(f:Nm→Int)(B E:Nat)(w W:World)(hs:RgS s f B w)(hb:Below w.heap.size w W)(_hl:s.phrases.length≤100000)(ds:List Deferred)(Q:Exit→Act→World→Prop)
  (hN:s.phrases.all (λp=>p.its.strip.exB)=true→∀(x0 x3 x4 x5 x6 x7 x8 x9 bl bm bn bo bp bq br bs bt bu bv bw bx bz bA bB bC bD bE bF bG bH bI bJ bK bL bM bN bO bP bQ bR bS bT bU bV bW bY bZ ca cb cc cd ce cf cg ch ci cj ck cm cn co cp cq cr cs ct cu cv cw cx cy cz cA cB cC cD cE cF cG cH cI cJ cK cL cM cN cO cP cQ cR cS cT cU cV cW cX cY cZ da db dc dd de df dg dh di dj dk dl dm dn dp dq dr dt du dv dw dx:Value) (V:World),Below w.heap.size w V→Q .normal { tmps:=#[x0,.pointer (some ⟨B,0,none⟩),.pointer (some ⟨E,0,none⟩),x3,x4,x5,x6,x7,x8,x9,bl,bm,bn,bo,bp,bq,br,bs,bt,bu,bv,bw,bx,bz,bA,bB,bC,bD,bE,bF,bG,bH,bI,bJ,bK,bL,bM,bN,bO,bP,bQ,bR,bS,bT,bU,bV,bW,bY,bZ,ca,cb,cc,cd,ce,cf,cg,ch,ci,cj,ck,cm,cn,co,cp,cq,cr,cs,ct,cu,cv,cw,cx,cy,cz,cA,cB,cC,cD,cE,cF,cG,cH,cI,cJ,cK,cL,cM,cN,cO,cP,cQ,cR,cS,cT,cU,cV,cW,cX,cY,cZ,da,db,dc,dd,de,df,dg,dh,di,dj,dk,dl,dm,dn,dp,dq,dr,dt,du,dv,dw,dx],defers:=ds } V)
  (hP:s.phrases.all (λp=>p.its.strip.exB)=false→∀(t:Array Value) (V:World),t.getD 2 undef=.pointer (some ⟨E,0,none⟩)→Below w.heap.size w V→Q (.panic BN) { tmps:=t,defers:=ds } V) :
  elem29n7.wp Tryz.prog Q { tmps:=#[e0,.pointer (some ⟨B,0,none⟩),.pointer (some ⟨E,0,none⟩),e3,e4,e5,e6,e7,e8,e9,ea,eb,ec,ed,ee,ef,eg,eh,ei,ej,ek,el,em,en,eo,ep,eq,er,es,et,eu,ev,ew,ex,ey,ez,eA,eB,eC,eD,eE,eF,eG,eH,eI,eJ,eK,eL,eM,eN,eO,eP,eQ,eR,eS,eT,eU,eV,eW,eX,eY,eZ,aa,ab,ac,ae,af,ag,ah,ai,aj,ak,al,am,an,ao,ap,aq,ar,au,av,aw,ax,ay,az,aA,aB,aC,aD,aE,aF,aG,aH,aI,aJ,aK,aL,aM,aN,aO,aP,aQ,aR,aS,aT,aU,aV,aW,aX,aY,aZ,ba,bb,bc,bd,be,bf,bg,bh,bi,bj,bk],defers:=ds } W:=by
 have hS:=hs.below hb;have y6:W.cell? ⟨B,10,none⟩=some (.slice s.fa s.phrases.length s.fc):=Aa hS.box 10 rfl;have HN:=qh hN;have HP:=qh hP;have HB:=qh hb;have HS:=qh hs;clear hN hP hb hS hs;generalize hn:s.phrases.length=n at *;have hF:=qh hn;clear hn
 conv=>arg 2;whnf
 go_wp2_with fail;go_loopw [80] (λiv wr=>∃i:Nat,iv=int i64 i∧i≤n∧Hid (∀p∈s.phrases.take i,p.its.strip.exB=true)∧Hid (Below w.heap.size w wr)) (λiv _=>n+1-(intOf iv).toNat)
 case atStart=>exact ⟨0,rfl,Nat.zero_le _,qh (by simp),HB⟩
 case round =>
  obtain ⟨i,rfl,hQ,hG,hB⟩:=hrel;by_cases hK:i<n
  ·have hi:(i:Int)<(n:Int):=by omega
   obtain ⟨p,hp⟩:∃p,s.phrases[i]?=some p:=⟨_,qg (by rw [hF.out];exact hK)⟩;have hD:=HS.out.below hB.out;obtain ⟨c0,c1⟩:=Cs hD.at_.phrases hp;have hL:=hD.at_.pform.resolve_left (λe=>by rw [e] at hp;cases hp);obtain ⟨W2,hR,gW2,bW2,sW2⟩:=Af wr #[sv p.name,.slice p.ia p.its.len p.ic] 58;have hE:=hD.below bW2;obtain ⟨i1,i2,i3⟩:=Di hE.at_.phrases hp;have hC:NumAt f W2 (p.its.refsL (blk p.ia) (off p.ia)):=λx hx=>hE.nums x (CE hp hx)
   obtain ⟨ns,hH⟩:=hC.ns;have C:=P8 _ p.its (qn _) p.ia p.ic ns W2 i1 i2 i3 hH;have z1:=Aa gW2 1 rfl;unfold Ph.val at c1;have HX:=qh hp;have hI:=qh (Ag hB.out bW2);have HC:=qh C;generalize hJ:s.fa=fa at *;have hT:=qh hJ;clear hJ;generalize hM:blk fa=fb at *;generalize hO:off fa=fo at *;subst hL;clear hM hO hp hD hE gW2 bW2 sW2 i1 i2 i3 hC hH C
   go_wp2_with (go_at_call 58;refine HC.out.mono ?_;intro e V he;rcases LL he with ⟨h1,rfl,hb⟩|⟨h1,rfl,hb⟩<;>clear he)
   ·have HV:=qh (Ag hI.out hb);have H1:=qh h1
    clear hb h1;go_roundw
    case rel=>exact ⟨i+1,by go_num,by omega,qh (GL hG.out HX.out H1.out),HV⟩
    case measure=>simp [intOf];omega
   ·have hA:s.phrases.all (λp=>p.its.strip.exB)=false:=by
     rw [← Bool.not_eq_true,List.all_eq_true];intro h;have:=h p (List.mem_of_getElem? HX.out);rw [h1] at this;cases this
    exact HP.out hA _ _ rfl (Ag hI.out hb)
  ·have:i=n:=by omega
   subst this;have hz:¬(i:Int)<(i:Int):=by omega
   have hA:s.phrases.all (λp=>p.its.strip.exB)=true:=List.all_eq_true.2 (λx hx=>hG.out x (by rw [List.take_of_length_le (by rw [hF.out];exact qn _)];exact hx));have HC:=qh hA;clear hA;go_wp2_with fail;exact HN.out HC.out _ _ _ _ _ _ _ _ _ _ _ _ _ _ _ _ _ _ _ _ _ _ _ _ _ _ _ _ _ _ _ _ _ _ _ _ _ _ _ _ _ _ _ _ _ _ _ _ _ _ _ _ _ _ _ _ _ _ _ _ _ _ _ _ _ _ _ _ _ _ _ _ _ _ _ _ _ _ _ _ _ _ _ _ _ _ _ _ _ _ _ _ _ _ _ _ _ _ _ _ _ _ _ _ _ _ _ _ _ _ _ _ _ _ _ _ _ _ _ _ _ hB.out
theorem Um(s:Ls)(f:Nm→Int)(B E:Nat)(w W:World)(hs:RgS s f B w)(hb:Below w.heap.size w W)(hl:s.phrases.length≤999)(ds:List Deferred)(Q:Exit→Act→World→Prop)
  (hN:decide (BG (s.nexts f)=[])=true→∀(x0 x3 x4 x5 x6 x7 x8 x9 bl bm bn bo bp bq br bs bt bu bv bw bx bz bA bB bC bD bE bF bG bH bI bJ bK bL bM bN bO bP bQ bR bS bT bU bV bW bY bZ ca cb cc cd ce cf cg ch ci cj ck cm cn co cp cq cr cs ct cu cv cw cx cy cz cA cB cC cD cE cF cG cH cI cJ cK cL cM cN cO cP cQ cR cS cT cU cV cW cX cY cZ da db dc dd de df dg dh di dj dk dl dm dn dp dq dr dt du dv dw dx:Value) (V:World),Below w.heap.size w V→Q .normal { tmps:=#[x0,.pointer (some ⟨B,0,none⟩),.pointer (some ⟨E,0,none⟩),x3,x4,x5,x6,x7,x8,x9,bl,bm,bn,bo,bp,bq,br,bs,bt,bu,bv,bw,bx,bz,bA,bB,bC,bD,bE,bF,bG,bH,bI,bJ,bK,bL,bM,bN,bO,bP,bQ,bR,bS,bT,bU,bV,bW,bY,bZ,ca,cb,cc,cd,ce,cf,cg,ch,ci,cj,ck,cm,cn,co,cp,cq,cr,cs,ct,cu,cv,cw,cx,cy,cz,cA,cB,cC,cD,cE,cF,cG,cH,cI,cJ,cK,cL,cM,cN,cO,cP,cQ,cR,cS,cT,cU,cV,cW,cX,cY,cZ,da,db,dc,dd,de,df,dg,dh,di,dj,dk,dl,dm,dn,dp,dq,dr,dt,du,dv,dw,dx],defers:=ds } V)
  (hP:decide (BG (s.nexts f)=[])=false→∀(t:Array Value) (V:World),t.getD 2 undef=.pointer (some ⟨E,0,none⟩)→Below w.heap.size w V→Q (.panic BN) { tmps:=t,defers:=ds } V) :
  elem29n8.wp Tryz.prog Q { tmps:=#[e0,.pointer (some ⟨B,0,none⟩),.pointer (some ⟨E,0,none⟩),e3,e4,e5,e6,e7,e8,e9,ea,eb,ec,ed,ee,ef,eg,eh,ei,ej,ek,el,em,en,eo,ep,eq,er,es,et,eu,ev,ew,ex,ey,ez,eA,eB,eC,eD,eE,eF,eG,eH,eI,eJ,eK,eL,eM,eN,eO,eP,eQ,eR,eS,eT,eU,eV,eW,eX,eY,eZ,aa,ab,ac,ae,af,ag,ah,ai,aj,ak,al,am,an,ao,ap,aq,ar,au,av,aw,ax,ay,az,aA,aB,aC,aD,aE,aF,aG,aH,aI,aJ,aK,aL,aM,aN,aO,aP,aQ,aR,aS,aT,aU,aV,aW,aX,aY,aZ,ba,bb,bc,bd,be,bf,bg,bh,bi,bj,bk],defers:=ds } W:=by
 have hS:=hs.below hb;have C:=Qc s f W hS.at_ hS.nums hl;have HN:=qh hN;have HP:=qh hP;have HB:=qh hb;have HC:=qh C;have HX:=qh hS.box;clear hN hP hb hS hs C
 conv=>arg 2;whnf
 have hB:=QV;have hC:=P7;have st0:True:=trivial;by_cases hz:BG (s.nexts f)=[]
 ·have HD:Hid (decide (BG (s.nexts f)=[])=true):=qh (decide_eq_true hz)
  go_wp2_with (first|(have q:=st0;clear q st0;(refine wpList_load_row rfl 30 _ rfl B rfl 30 s.cells (0,0) _ HX.out Tryz.underlying30 rfl (by kernel_rfl) ?_;simp only [Act.put,qD,qE,qF]))|(go_at_call 59;refine HC.out.mono ?_;rintro e V ⟨v,rfl,hv,hr⟩;rcases hr with ⟨_,rfl⟩|⟨g,cap,rfl,hA,_⟩;rotate_left;exact absurd hz hA;have HV:=qh hv;clear hv)|(first|(go_at_call 57;refine (D8 (by assumption) _).mono ?_;rintro e w2 ⟨rfl,rfl⟩)|(go_at_call 56;first|(refine (An _).mono ?_;rintro e w2 ⟨rfl,rfl⟩)|(refine (Al _).mono ?_;unfold Ai;rintro e w2 ⟨rfl,rfl⟩))));exact HN.out HD.out _ _ _ _ _ _ _ _ _ _ _ _ _ _ _ _ _ _ _ _ _ _ _ _ _ _ _ _ _ _ _ _ _ _ _ _ _ _ _ _ _ _ _ _ _ _ _ _ _ _ _ _ _ _ _ _ _ _ _ _ _ _ _ _ _ _ _ _ _ _ _ _ _ _ _ _ _ _ _ _ _ _ _ _ _ _ _ _ _ _ _ _ _ _ _ _ _ _ _ _ _ _ _ _ _ _ _ _ _ _ _ _ _ _ _ _ _ _ _ _ _ (Ag HB.out HV.out)
 ·have HD:Hid (decide (BG (s.nexts f)=[])=false):=qh (decide_eq_false hz)
  go_wp2_with (first|(have q:=st0;clear q st0;(refine wpList_load_row rfl 30 _ rfl B rfl 30 s.cells (0,0) _ HX.out Tryz.underlying30 rfl (by kernel_rfl) ?_;simp only [Act.put,qD,qE,qF]))|(go_at_call 59;refine HC.out.mono ?_;rintro e V ⟨v,rfl,hv,hr⟩;rcases hr with ⟨he,_⟩|⟨g,cap,rfl,hA,_⟩;exact absurd he hz;have HV:=qh hv;clear hv)|(first|(go_at_call 57;refine (D8 (by assumption) _).mono ?_;rintro e w2 ⟨rfl,rfl⟩)|(go_at_call 56;first|(refine (An _).mono ?_;rintro e w2 ⟨rfl,rfl⟩)|(refine (Al _).mono ?_;unfold Ai;rintro e w2 ⟨rfl,rfl⟩))));exact HP.out HD.out _ _ rfl (Ag HB.out HV.out)
abbrev KE(KB SB B:Nat):Value:=.func (.func 95) #[] #[.pointer (some ⟨KB,0,none⟩),.pointer (some ⟨SB,0,none⟩),.pointer (some ⟨B,0,none⟩)]
theorem Un(s:Ls)(f:Nm→Int)(len:Int→Int)(B E:Nat)(w W:World)(hs:RgS s f B w)(hb:Below w.heap.size w W)(ds:List Deferred)(Q:Exit→Act→World→Prop)
  (hN:∀(B7 KB M SB PB:Nat) (x0 x3 x4 x5 x6 x8 x9 bl bm bn bo bp bq br bs bt bu bv bw bx bz bA bB bC bD bE bF bG bH bI bJ bK bL bM bN bO bP bQ bR bS bT bU bV bW bY bZ ca cb cc cd ce cf cg ch ci cj ck cm cn co cp cq cr cs ct cu cv cw cx cy cz cA cB cC cD cE cF cG cH cI cJ cK cL cM cN cO cP cQ cR cS cT cU cV cW cX cY cZ da db dc dd de df dg dh di dj dk dl dm dn dp dq dr dt du dv dw dx:Value) (V:World),LenW V s f B7 KB M SB PB len→w.heap.size≤M→Below w.heap.size w V→Q .normal { tmps:=#[x0,.pointer (some ⟨B,0,none⟩),.pointer (some ⟨E,0,none⟩),x3,x4,x5,x6,KE KB SB B7,x8,x9,bl,bm,bn,bo,bp,bq,br,bs,bt,bu,bv,bw,bx,bz,bA,bB,bC,bD,bE,bF,bG,bH,bI,bJ,bK,bL,bM,bN,bO,bP,bQ,bR,bS,bT,bU,bV,bW,bY,bZ,ca,cb,cc,cd,ce,cf,cg,ch,ci,cj,ck,cm,cn,co,cp,cq,cr,cs,ct,cu,cv,cw,cx,cy,cz,cA,cB,cC,cD,cE,cF,cG,cH,cI,cJ,cK,cL,cM,cN,cO,cP,cQ,cR,cS,cT,cU,cV,cW,cX,cY,cZ,da,db,dc,dd,de,df,dg,dh,di,dj,dk,dl,dm,dn,dp,dq,dr,dt,du,dv,dw,dx],defers:=ds } V) :
  elem29n9.wp Tryz.prog Q { tmps:=#[e0,.pointer (some ⟨B,0,none⟩),.pointer (some ⟨E,0,none⟩),e3,e4,e5,e6,e7,e8,e9,ea,eb,ec,ed,ee,ef,eg,eh,ei,ej,ek,el,em,en,eo,ep,eq,er,es,et,eu,ev,ew,ex,ey,ez,eA,eB,eC,eD,eE,eF,eG,eH,eI,eJ,eK,eL,eM,eN,eO,eP,eQ,eR,eS,eT,eU,eV,eW,eX,eY,eZ,aa,ab,ac,ae,af,ag,ah,ai,aj,ak,al,am,an,ao,ap,aq,ar,au,av,aw,ax,ay,az,aA,aB,aC,aD,aE,aF,aG,aH,aI,aJ,aK,aL,aM,aN,aO,aP,aQ,aR,aS,aT,aU,aV,aW,aX,aY,aZ,ba,bb,bc,bd,be,bf,bg,bh,bi,bj,bk],defers:=ds } W:=by
 have hS:=hs.below hb;have C:=KD s f len W hS.at_ hS.nums;have HN:=qh hN;have HB:=qh hb;have HC:=qh C;have HX:=qh hS.box;clear hN hb hS hs C
 conv=>arg 2;whnf
 have st0:True:=trivial
 go_wp2_with (first|(have q:=st0;clear q st0;(refine wpList_load_row rfl 30 _ rfl B rfl 30 s.cells (0,0) _ HX.out Tryz.underlying30 rfl (by kernel_rfl) ?_;simp only [Act.put,qD,qE,qF]))|(go_at_call 60;refine HC.out.mono ?_;rintro e V ⟨B7,KB,M,SB,PB,rfl,h1,h2,h3⟩;have H1:=qh h1;have H2:=qh h2;have H3:=qh h3;clear h1 h2 h3));exact HN.out _ _ _ _ _ _ _ _ _ _ _ _ _ _ _ _ _ _ _ _ _ _ _ _ _ _ _ _ _ _ _ _ _ _ _ _ _ _ _ _ _ _ _ _ _ _ _ _ _ _ _ _ _ _ _ _ _ _ _ _ _ _ _ _ _ _ _ _ _ _ _ _ _ _ _ _ _ _ _ _ _ _ _ _ _ _ _ _ _ _ _ _ _ _ _ _ _ _ _ _ _ _ _ _ _ _ _ _ _ _ _ _ _ _ _ _ _ _ _ _ _ _ _ _ _ H1.out (Nat.le_trans HB.out.size H2.out) (Ag HB.out H3.out)
def CR(s:Ls)(f:Nm→Int)(len:Int→Int)(d:Dan):Bool:=inB d.bar 0 (s.bars-1)&&decide (d.bar+len (f d.pn)≤s.bars)
theorem IS{f:Nm→Int}{W:World}{b:Nat}:∀{o:Nat} {ds:List Dan} {i:Nat} {d:Dan},Bw W b o ds→NumAt f W (Ao b o ds)→ds[i]?=some d→∃u1,W.cell? ⟨b,o+i*6,none⟩=some (sv d.rn)∧W.cell? ⟨b,o+i*6+1,none⟩=some (int i64 u1)∧W.cell? ⟨b,o+i*6+2,none⟩=some (sv d.pn)∧W.cell? ⟨b,o+i*6+3,none⟩=some (int i64 (f d.pn))∧W.cell? ⟨b,o+i*6+4,none⟩=some (int i64 d.bar)∧W.cell? ⟨b,o+i*6+5,none⟩=some (.bool d.mirror)
 | _,[],_,_,_,_,h=>by cases h
 | o,x::r,0,d,⟨⟨h0,h2,h4,h5⟩,_⟩,hn,h=>by
  cases h;obtain ⟨n1,a1,_⟩:=hn ⟨b,o,1,x.rn⟩ (by simp [Ao]);obtain ⟨n2,a2,a3⟩:=hn ⟨b,o+2,2,x.pn⟩ (by simp [Ao]);rw [a3 rfl] at a2;exact ⟨n1,by simpa using h0,by simpa using a1,by simpa using h2,by simpa using a2,by simpa using h4,by simpa using h5⟩
 | o,x::r,i+1,d,⟨_,hr⟩,hn,h=>by
  have:=IS (i:=i) hr (λy hy=>hn y (by simp [Ao,hy])) (by simpa using h);rw [show o+(i+1)*6=o+6+i*6 by omega];exact this
noncomputable def reg23:Code:=match elem29n10 with
 | .seq _ (.block _ (.loop (.seq _ (.seq _ (.seq (.block _ (.seq _ c)) _)))))=>c
 | c=>c
structure DanS(s:Ls)(f:Nm→Int)(len:Int→Int)(B B7 KB M SB PB D:Nat)(bar fj:Int)(w V:World):Prop where
 num:V.cell? ⟨D,3,none⟩=some (int i64 fj)
 bar:V.cell? ⟨D,4,none⟩=some (int i64 bar)
 bars:V.cell? ⟨B,3,none⟩=some (int i64 s.bars)
 lw:LenW V s f B7 KB M SB PB len
 below:Below w.heap.size w V
def DQ(N:Act→World→Prop)(E:Nat)(ds:List Deferred)(ok:Bool)(w:World):Exit→Act→World→Prop
 | .normal,a,V=>N a V
 | .panic c,a,V=>c=BN∧a.tmps.getD 2 undef=.pointer (some ⟨E,0,none⟩)∧a.defers=ds∧ok=false∧Below w.heap.size w V
 | _,_,_=>False
theorem DQ.put{N:Act→World→Prop}{E:Nat}{ds:List Deferred}{ok:Bool}{w:World}{d:Nat}(hd:d≠2){v:Value}:∀(c:List PanicEntry) (a:Act) (V:World),DQ N E ds ok w (.panic c) (a.put (some d) v) V→DQ N E ds ok w (.panic c) a V:=by
 rintro c a V ⟨h1,h2,h3⟩;refine ⟨h1,?_,h3⟩;rw [← h2]
 show a.tmps.getD 2 undef=(a.tmps.setIfInBounds d v).getD 2 undef
 rw [Array.getD_eq_getD_getElem?,Array.getD_eq_getD_getElem?,Array.getElem?_setIfInBounds_ne hd]
theorem QQ(s:Ls)(f:Nm→Int)(len:Int→Int)(B E B7 KB M SB PB D:Nat)(bar fj lj:Int)(w W:World)(hS:DanS s f len B B7 KB M SB PB D bar fj w W)(hB:1≤s.bars∧s.bars≤4096)(hK:0≤lj∧lj≤4097)
  (hC:∀V,DanS s f len B B7 KB M SB PB D bar fj w V→Calls Tryz.prog 95 #[int i64 fj,.pointer (some ⟨KB,0,none⟩),.pointer (some ⟨SB,0,none⟩),.pointer (some ⟨B7,0,none⟩)] V λe V'=>e=.returned (int i64 lj)∧DanS s f len B B7 KB M SB PB D bar fj w V') (ok:Bool) (hH:ok=(inB bar 0 (s.bars-1)&&decide (bar+lj≤s.bars)))
  (ds:List Deferred) (N:Act→World→Prop)
  (hN:ok=true→∀(bl bm bn bo bp bq br bs bt bu bv bw bx bz bA bB bC bD bE bF:Value) (V:World),DanS s f len B B7 KB M SB PB D bar fj w V→N { tmps:=#[e0,.pointer (some ⟨B,0,none⟩),.pointer (some ⟨E,0,none⟩),e3,e4,e5,e6,KE KB SB B7,e8,.pointer (some ⟨D,0,none⟩),ea,eb,ec,ed,ee,ef,eg,eh,ei,ej,ek,el,em,en,eo,ep,eq,er,es,et,eu,ev,ew,ex,ey,ez,eA,eB,eC,eD,eE,eF,eG,eH,eI,eJ,eK,eL,eM,eN,eO,eP,eQ,eR,eS,eT,eU,eV,eW,eX,eY,eZ,aa,ab,ac,ae,af,ag,ah,ai,aj,ak,al,am,an,ao,ap,aq,ar,au,av,aw,ax,ay,az,aA,aB,aC,aD,aE,aF,aG,aH,aI,aJ,aK,aL,aM,aN,aO,aP,bl,bm,bn,bo,bp,bq,br,bs,bt,bu,bv,bw,bx,bz,bA,bB,bC,bD,bE,bF,bk],defers:=ds } V) :
  reg23.wp Tryz.prog (DQ N E ds ok w) { tmps:=#[e0,.pointer (some ⟨B,0,none⟩),.pointer (some ⟨E,0,none⟩),e3,e4,e5,e6,KE KB SB B7,e8,.pointer (some ⟨D,0,none⟩),ea,eb,ec,ed,ee,ef,eg,eh,ei,ej,ek,el,em,en,eo,ep,eq,er,es,et,eu,ev,ew,ex,ey,ez,eA,eB,eC,eD,eE,eF,eG,eH,eI,eJ,eK,eL,eM,eN,eO,eP,eQ,eR,eS,eT,eU,eV,eW,eX,eY,eZ,aa,ab,ac,ae,af,ag,ah,ai,aj,ak,al,am,an,ao,ap,aq,ar,au,av,aw,ax,ay,az,aA,aB,aC,aD,aE,aF,aG,aH,aI,aJ,aK,aL,aM,aN,aO,aP,aQ,aR,aS,aT,aU,aV,aW,aX,aY,aZ,ba,bb,bc,bd,be,bf,bg,bh,bi,bj,bk],defers:=ds } W:=by
 obtain ⟨wd,hE⟩:∃wd:World,{ W with drawn:=W.drawn+1 }=wd:=⟨_,rfl⟩;have hA:Below W.heap.size W wd:=by rw [← hE];exact (Below.refl _ _).drew
 have HS:Hid (DanS s f len B B7 KB M SB PB D bar fj w wd):=qh ⟨Ad hA hS.num,Ad hA hS.bar,Ad hA hS.bars,hS.lw.below hA,Ag hS.below hA⟩;have HC:=qh hC;have HN:=qh hN;have hL:=qh hE;have hF:=qh hH;obtain ⟨hM,hO⟩:=hB;obtain ⟨hP,hQ⟩:=hK;have hR:IntKind.i64.wrap (s.bars-1)=s.bars-1:=IntWalk.i64_in _ (by omega);clear hC hN hE hH hS hA
 conv=>arg 2;whnf
 refine wp_region_held (S:=DanS s f len B B7 KB M SB PB D bar fj w) (by kernel_rfl) ?_;rw [hL.out];refine tq 0 _ (.pointer (some ⟨D,4,none⟩)) rfl (by kernel_rfl) (DQ.put (by decide)) (Or.inl ⟨by kernel_rfl,λV hb=>by go_simp⟩) HS.out ?_
 try (simp only [Act.put,List.getElem_toArray,List.getElem_cons_zero,List.setIfInBounds_toArray,List.set_cons_zero,List.set_cons_succ])
 refine tq 1 _ (int i64 bar) rfl (by kernel_rfl) (DQ.put (by decide)) (Or.inl ⟨by kernel_rfl,λV hb=>by have q0:=hb.bar;go_simp⟩) HS.out ?_
 try (simp only [Act.put,qz])
 refine tq 2 _ (.pointer (some ⟨B,3,none⟩)) rfl (by kernel_rfl) (DQ.put (by decide)) (Or.inl ⟨by kernel_rfl,λV hb=>by go_simp⟩) HS.out ?_
 try (simp only [Act.put,qz])
 refine tq 3 _ (int i64 s.bars) rfl (by kernel_rfl) (DQ.put (by decide)) (Or.inl ⟨by kernel_rfl,λV hb=>by have q0:=hb.bars;go_simp⟩) HS.out ?_
 try (simp only [Act.put,qz])
 refine tq 4 _ (int i64 (s.bars-1)) rfl (by kernel_rfl) (DQ.put (by decide)) (Or.inl ⟨by kernel_rfl,λV hb=>by go_simp⟩) HS.out ?_
 try (simp only [Act.put,qz])
 refine wpAnyH_ready (rs:=[5]) (by kernel_rfl) (by simp) ?_;refine AllReadyH.cons (o:=_) rfl (λK1 hD=>?_) AllReadyH.nil;go_simp
 cases hq:inB bar 0 (s.bars-1) with
 | false =>
  have HF:Hid (ok=false):=qh (by rw [hF.out,hq,Bool.false_and]);refine (D8 (v:=false) (by assumption) _).mono ?_;rintro e2 w2 ⟨rfl,rfl⟩;refine hD.out _ _ HS.out (λ_=>?_);clear hD K1
  try (simp only [Act.put,qz])
  refine tq 6 _ (.bool false) rfl (by kernel_rfl) (DQ.put (by decide)) (Or.inl ⟨by kernel_rfl,λV hb=>by go_simp⟩) HS.out ?_
  try (simp only [Act.put,qz])
  refine tq 7 _ undef rfl (by kernel_rfl) (DQ.put (by decide)) (Or.inr ⟨by kernel_rfl,rfl⟩) HS.out ?_
  try (simp only [Act.put,qz])
  refine tq 8 _ undef rfl (by kernel_rfl) (DQ.put (by decide)) (Or.inr ⟨by kernel_rfl,rfl⟩) HS.out ?_
  try (simp only [Act.put,qz])
  refine tq 9 _ undef rfl (by kernel_rfl) (DQ.put (by decide)) (Or.inr ⟨by kernel_rfl,rfl⟩) HS.out ?_
  try (simp only [Act.put,qz])
  refine tq 10 _ undef rfl (by kernel_rfl) (DQ.put (by decide)) (Or.inr ⟨by kernel_rfl,rfl⟩) HS.out ?_
  try (simp only [Act.put,qz])
  refine tq 11 _ undef rfl (by kernel_rfl) (DQ.put (by decide)) (Or.inr ⟨by kernel_rfl,rfl⟩) HS.out ?_
  try (simp only [Act.put,qz])
  refine tq 12 _ undef rfl (by kernel_rfl) (DQ.put (by decide)) (Or.inr ⟨by kernel_rfl,rfl⟩) HS.out ?_
  try (simp only [Act.put,qz])
  refine tq 13 _ undef rfl (by kernel_rfl) (DQ.put (by decide)) (Or.inr ⟨by kernel_rfl,rfl⟩) HS.out ?_
  try (simp only [Act.put,qz])
  refine tq 14 _ undef rfl (by kernel_rfl) (DQ.put (by decide)) (Or.inr ⟨by kernel_rfl,rfl⟩) HS.out ?_
  try (simp only [Act.put,qz])
  refine tq 15 _ undef rfl (by kernel_rfl) (DQ.put (by decide)) (Or.inr ⟨by kernel_rfl,rfl⟩) HS.out ?_
  try (simp only [Act.put,qz])
  refine tq 16 _ undef rfl (by kernel_rfl) (DQ.put (by decide)) (Or.inr ⟨by kernel_rfl,rfl⟩) HS.out ?_
  try (simp only [Act.put,qz])
  refine tq 17 _ undef rfl (by kernel_rfl) (DQ.put (by decide)) (Or.inr ⟨by kernel_rfl,rfl⟩) HS.out ?_
  try (simp only [Act.put,qz])
  refine tq 18 _ (.bool false) rfl (by kernel_rfl) (DQ.put (by decide)) (Or.inl ⟨by kernel_rfl,λV hb=>by go_simp⟩) HS.out ?_
  try (simp only [Act.put,qz])
  refine wpAnyH_ready (rs:=[19]) (by kernel_rfl) (by simp) ?_;refine AllReadyH.cons (o:=_) rfl (λK2 hT=>?_) AllReadyH.nil;go_simp;refine (Al _).mono ?_;unfold Ai;rintro e2 w2 ⟨rfl,rfl⟩;exact ⟨rfl,rfl,rfl,HF.out,HS.out.below⟩
 | true =>
  obtain ⟨hU,hV⟩:=AL.1 hq;have hW:IntKind.i64.wrap (bar+lj)=bar+lj:=IntWalk.i64_in _ (by omega);refine (D8 (v:=true) (by assumption) _).mono ?_;rintro e2 w2 ⟨rfl,rfl⟩;refine hD.out _ _ HS.out (λ_=>?_);clear hD K1
  try (simp only [Act.put,qz])
  refine tq 6 _ (.bool true) rfl (by kernel_rfl) (DQ.put (by decide)) (Or.inl ⟨by kernel_rfl,λV hb=>by go_simp⟩) HS.out ?_
  try (simp only [Act.put,qz])
  refine tq 7 _ (.pointer (some ⟨D,4,none⟩)) rfl (by kernel_rfl) (DQ.put (by decide)) (Or.inl ⟨by kernel_rfl,λV hb=>by go_simp⟩) HS.out ?_
  try (simp only [Act.put,qz])
  refine tq 8 _ (int i64 bar) rfl (by kernel_rfl) (DQ.put (by decide)) (Or.inl ⟨by kernel_rfl,λV hb=>by have q0:=hb.bar;go_simp⟩) HS.out ?_
  try (simp only [Act.put,qz])
  refine tq 9 _ (KE KB SB B7) rfl (by kernel_rfl) (DQ.put (by decide)) (Or.inl ⟨by kernel_rfl,λV hb=>by go_simp⟩) HS.out ?_
  try (simp only [Act.put,qz])
  refine tq 10 _ (.pointer (some ⟨D,2,none⟩)) rfl (by kernel_rfl) (DQ.put (by decide)) (Or.inl ⟨by kernel_rfl,λV hb=>by go_simp⟩) HS.out ?_
  try (simp only [Act.put,qz])
  refine tq 11 _ (.pointer (some ⟨D,3,none⟩)) rfl (by kernel_rfl) (DQ.put (by decide)) (Or.inl ⟨by kernel_rfl,λV hb=>by go_simp⟩) HS.out ?_
  try (simp only [Act.put,qz])
  refine tq 12 _ (int i64 fj) rfl (by kernel_rfl) (DQ.put (by decide)) (Or.inl ⟨by kernel_rfl,λV hb=>by have q0:=hb.num;go_simp⟩) HS.out ?_
  try (simp only [Act.put,qz])
  refine tq 15 _ (.pointer (some ⟨B,3,none⟩)) rfl (by kernel_rfl) (DQ.put (by decide)) (Or.inl ⟨by kernel_rfl,λV hb=>by go_simp⟩) HS.out ?_
  try (simp only [Act.put,qz])
  refine tq 16 _ (int i64 s.bars) rfl (by kernel_rfl) (DQ.put (by decide)) (Or.inl ⟨by kernel_rfl,λV hb=>by have q0:=hb.bars;go_simp⟩) HS.out ?_
  try (simp only [Act.put,qz])
  refine wpAnyH_ready (rs:=[13]) (by kernel_rfl) (by simp) ?_;refine AllReadyH.cons (o:=_) rfl (λK3 hI=>?_) AllReadyH.nil;go_simp;refine (HC.out _ HS.out).mono ?_;rintro e2 V2 ⟨rfl,hG⟩;refine hI.out _ _ hG (λ_=>?_);clear hI K3 HS;have HS:=qh hG;clear hG
  try (simp only [Act.put,qz])
  refine tq 14 _ (int i64 (bar+lj)) rfl (by kernel_rfl) (DQ.put (by decide)) (Or.inl ⟨by kernel_rfl,λV hb=>by go_simp⟩) HS.out ?_
  try (simp only [Act.put,qz])
  refine tq 17 _ (.bool (decide (bar+lj≤s.bars))) rfl (by kernel_rfl) (DQ.put (by decide)) (Or.inl ⟨by kernel_rfl,λV hb=>by go_simp⟩) HS.out ?_
  try (simp only [Act.put,qz])
  refine tq 18 _ (.bool (decide (bar+lj≤s.bars))) rfl (by kernel_rfl) (DQ.put (by decide)) (Or.inl ⟨by kernel_rfl,λV hb=>by go_simp⟩) HS.out ?_
  try (simp only [Act.put,qz])
  refine wpAnyH_ready (rs:=[19]) (by kernel_rfl) (by simp) ?_;refine AllReadyH.cons (o:=_) rfl (λK4 hJ=>?_) AllReadyH.nil;go_simp;by_cases hd:bar+lj≤s.bars
  ·have HF:Hid (ok=true):=qh (by rw [hF.out,hq,decide_eq_true hd];rfl)
   rw [decide_eq_true hd];refine (An _).mono ?_;rintro e2 w2 ⟨rfl,rfl⟩;refine hJ.out _ _ HS.out (λ_=>?_);clear hJ K4
   try (simp only [Act.put,qz])
   refine wpAnyH_done (by kernel_rfl) ?_ _;exact HN.out HF.out _ _ _ _ _ _ _ _ _ _ _ _ _ _ _ _ _ _ _ _ _ HS.out
  ·have HF:Hid (ok=false):=qh (by rw [hF.out,hq,decide_eq_false hd];rfl)
   rw [decide_eq_false hd];refine (Al _).mono ?_;unfold Ai;rintro e2 w2 ⟨rfl,rfl⟩;exact ⟨rfl,rfl,rfl,HF.out,HS.out.below⟩
theorem SV(s:Ls)(f:Nm→Int)(len:Int→Int)(B E B7 KB M SB PB:Nat)(w W:World)(hs:RgS s f B w)(hb:Below w.heap.size w W)(hL:LenW W s f B7 KB M SB PB len)(hM:w.heap.size≤M)(hI:NumAt f w (Ao (blk s.da) (off s.da) s.dances))(hC:1≤s.bars∧s.bars≤4096)
  (hP:∀d∈s.dances,∀V,LenW V s f B7 KB M SB PB len→Calls Tryz.prog 95 #[int i64 (f d.pn),.pointer (some ⟨KB,0,none⟩),.pointer (some ⟨SB,0,none⟩),.pointer (some ⟨B7,0,none⟩)] V (Jr s f B7 KB M SB PB len (len (f d.pn)) V)) (hJ:∀d∈s.dances,0≤len (f d.pn)∧len (f d.pn)≤4097)
  (_hl:s.dances.length≤100000) (ds:List Deferred) (Q:Exit→Act→World→Prop)
  (hN:s.dances.all (CR s f len)=true→∀(x0 x3 x4 x5 x6 x7 x8 x9 bl bm bn bo bp bq br bs bt bu bv bw bx bz bA bB bC bD bE bF bG bH bI bJ bK bL bM bN bO bP bQ bR bS bT bU bV bW bY bZ ca cb cc cd ce cf cg ch ci cj ck cm cn co cp cq cr cs ct cu cv cw cx cy cz cA cB cC cD cE cF cG cH cI cJ cK cL cM cN cO cP cQ cR cS cT cU cV cW cX cY cZ db dd de dg dh di dj dk dl dm dn dp dq dr dt du dv dw dx dy dz dA:Value) (V:World),Below w.heap.size w V→Q .normal { tmps:=#[x0,.pointer (some ⟨B,0,none⟩),.pointer (some ⟨E,0,none⟩),x3,x4,x5,x6,x7,x8,x9,bl,bm,bn,bo,bp,bq,br,bs,bt,bu,bv,bw,bx,bz,bA,bB,bC,bD,bE,bF,bG,bH,bI,bJ,bK,bL,bM,bN,bO,bP,bQ,bR,bS,bT,bU,bV,bW,bY,bZ,ca,cb,cc,cd,ce,cf,cg,ch,ci,cj,ck,cm,cn,co,cp,cq,cr,cs,ct,cu,cv,cw,cx,cy,cz,cA,cB,cC,cD,cE,cF,cG,cH,cI,cJ,cK,cL,cM,cN,cO,cP,cQ,cR,cS,cT,cU,cV,cW,cX,cY,cZ,db,dd,de,dg,dh,di,dj,dk,dl,dm,dn,dp,dq,dr,dt,du,dv,dw,dx,dy,dz,dA],defers:=ds } V)
  (hO:s.dances.all (CR s f len)=false→∀(t:Array Value) (V:World),t.getD 2 undef=.pointer (some ⟨E,0,none⟩)→Below w.heap.size w V→Q (.panic BN) { tmps:=t,defers:=ds } V) :
  elem29n10.wp Tryz.prog Q { tmps:=#[e0,.pointer (some ⟨B,0,none⟩),.pointer (some ⟨E,0,none⟩),e3,e4,e5,e6,KE KB SB B7,e8,e9,ea,eb,ec,ed,ee,ef,eg,eh,ei,ej,ek,el,em,en,eo,ep,eq,er,es,et,eu,ev,ew,ex,ey,ez,eA,eB,eC,eD,eE,eF,eG,eH,eI,eJ,eK,eL,eM,eN,eO,eP,eQ,eR,eS,eT,eU,eV,eW,eX,eY,eZ,aa,ab,ac,ae,af,ag,ah,ai,aj,ak,al,am,an,ao,ap,aq,ar,au,av,aw,ax,ay,az,aA,aB,aC,aD,aE,aF,aG,aH,aI,aJ,aK,aL,aM,aN,aO,aP,aQ,aR,aS,aT,aU,aV,aW,aX,aY,aZ,ba,bb,bc,bd,be,bf,bg,bh,bi,bj,bk],defers:=ds } W:=by
 have hS:=hs.below hb;have y6:W.cell? ⟨B,11,none⟩=some (.slice s.da s.dances.length s.dc):=Aa hS.box 11 rfl;have HN:=qh hN;have hf:=qh hO;have HB:=qh hb;have HS:=qh hs;have HL:=qh hL;have hh:=qh hI;have hj:=qh hP;have hm:=qh hJ;have ho:=qh hM;clear hN hO hb hS hs hL hI hP hJ hM;generalize hn:s.dances.length=n at *;have hQ:=qh hn;clear hn
 conv=>arg 2;whnf
 go_wp2_with fail;go_loopw [97] (λiv wr=>∃i:Nat,iv=int i64 i∧i≤n∧Hid (∀d∈s.dances.take i,CR s f len d=true)∧Hid (Below w.heap.size w wr)∧Hid (LenW wr s f B7 KB M SB PB len)) (λiv _=>n+1-(intOf iv).toNat)
 case atStart=>exact ⟨0,rfl,Nat.zero_le _,qh (by simp),HB,HL⟩
 case round =>
  obtain ⟨i,rfl,h1,hR,hB,hq⟩:=hrel;by_cases hr:i<n
  ·have hi:(i:Int)<(n:Int):=by omega
   obtain ⟨d,hd⟩:∃d,s.dances[i]?=some d:=⟨_,qg (by rw [hQ.out];exact hr)⟩;have hF:=List.mem_of_getElem? hd;have hE:=HS.out.below hB.out;have hT:=hh.out.below hB.out;obtain ⟨u1,c0,c1,c2,c3,c4,c5⟩:=IS hE.at_.dances hT hd;have ht:=hE.at_.dform.resolve_left (λe=>by rw [e] at hd;cases hd);obtain ⟨W2,hU,gW2,bW2,sW2⟩:=Af wr #[sv d.rn,int i64 u1,sv d.pn,int i64 (f d.pn),int i64 d.bar,.bool d.mirror] 64;have y3:W2.cell? ⟨B,3,none⟩=some (int i64 s.bars):=Aa (hE.below bW2).box 3 rfl;have z3:=Aa gW2 3 rfl;have z4:=Aa gW2 4 rfl;have hW:=hq.out.below bW2;have hu:Hid (DanS s f len B B7 KB M SB PB wr.heap.size d.bar (f d.pn) w W2):=qh ⟨z3,z4,y3,hW,Ag hB.out bW2⟩
   have hX:∀V V',DanS s f len B B7 KB M SB PB wr.heap.size d.bar (f d.pn) w V→LenW V' s f B7 KB M SB PB len→V.grownBy V' (some M)→DanS s f len B B7 KB M SB PB wr.heap.size d.bar (f d.pn) w V':=λV V' h hl hg =>
    ⟨BH h.num h.lw.isMap hg,BH h.bar h.lw.isMap hg,BH h.bars h.lw.isMap hg,hl,h.below.grown hg h.below.size (λk hk=>by cases hk;exact ho.out)⟩
   have C:=λV (h:DanS s f len B B7 KB M SB PB wr.heap.size d.bar (f d.pn) w V)=>(hj.out d hF V h.lw).mono λe V' (hp:Jr s f B7 KB M SB PB len (len (f d.pn)) V e V')=>(⟨hp.1,hX V V' h hp.2.1 hp.2.2⟩:e=.returned (int i64 (len (f d.pn)))∧DanS s f len B B7 KB M SB PB wr.heap.size d.bar (f d.pn) w V')
   have HC:=qh C;have HX:=qh hd;have hG:=qh (hm.out d hF);clear hd hF hE hT gW2 bW2 sW2 hW C hX y3 z3 z4;have hv:=qh hU;clear hU;generalize hY:s.da=da at *;have h6:=qh hY;clear hY;generalize hw:blk da=fb at *;generalize hy:off da=fo at *;subst ht;clear hw hy;refine Ae (λK1 hK=>?_);have hZ:=qh hK;clear hK;go_wp2_with fail;refine hZ.out _ _ ?_;clear hZ K1;refine Ae (λK2 hK=>?_);have ha:=qh hK;clear hK;go_wp2_with fail;refine ha.out _ _ ?_;clear ha K2;refine Ae (λK3 hK=>?_);have hc:=qh hK;clear hK;refine wp_block ?_;refine Ae (λK4 hK=>?_);have he:=qh hK;clear hK;go_wp2_with fail;refine he.out _ _ ?_;clear he K4;rw [hv.out];change Code.wp Tryz.prog reg23 _ _ _;refine Code.wp_mono (λe a V h=>?_) (QQ s f len B E B7 KB M SB PB wr.heap.size d.bar (f d.pn) (len (f d.pn)) w W2 hu.out hC hG.out HC.out (CR s f len d) rfl ds K3 (λhD=>?_))
   ·cases e with
    | normal=>exact h
    | panic c =>
     obtain ⟨tm,df⟩:=a;obtain ⟨rfl,h2,h3,h4,h5⟩:=h;have h0:df=ds:=h3;subst h0
     have hA:s.dances.all (CR s f len)=false:=by
      rw [← Bool.not_eq_true,List.all_eq_true];intro h;rw [h d (List.mem_of_getElem? HX.out)] at h4;cases h4
     exact hf.out hA tm V h2 h5
    | _=>exact h.elim
   ·intros
    rename_i V hV;refine hc.out _ _ ?_;have HV:=qh hV;have hH:=qh hD;clear hV hD hc K3;go_wp2_with fail;go_roundw
    case rel=>exact ⟨i+1,by go_num,by omega,qh (GL hR.out HX.out hH.out),qh HV.out.below,qh HV.out.lw⟩
    case measure=>simp [intOf];omega
  ·have:i=n:=by omega
   subst this;have hz:¬(i:Int)<(i:Int):=by omega
   have hA:s.dances.all (CR s f len)=true:=List.all_eq_true.2 (λx hx=>hR.out x (by rw [List.take_of_length_le (by rw [hQ.out];exact qn _)];exact hx));have HC:=qh hA;clear hA;go_wp2_with fail;exact HN.out HC.out _ _ _ _ _ _ _ _ _ _ _ _ _ _ _ _ _ _ _ _ _ _ _ _ _ _ _ _ _ _ _ _ _ _ _ _ _ _ _ _ _ _ _ _ _ _ _ _ _ _ _ _ _ _ _ _ _ _ _ _ _ _ _ _ _ _ _ _ _ _ _ _ _ _ _ _ _ _ _ _ _ _ _ _ _ _ _ _ _ _ _ _ _ _ _ _ _ _ _ _ _ _ _ _ _ _ _ _ _ _ _ _ _ _ _ _ _ _ _ _ _ hB.out
def AI(s:Sc)(nm:Nm):Int:=(s.pnames.idxOf nm:Nat)
theorem E7{s:Sc}{ns:List Int}(h:Dd s ns=0):s.lims=true∧s.named=true∧s.apart=true∧s.kinds=true∧Ay s.rnames s.pnames s.refs ns=some ns:=by
 unfold Dd at h
 split at h
 ·rename_i h0
  obtain ⟨h1,h2,h3,_⟩:=Q9 h0
  split at h
  ·rename_i hi
   unfold Sc.idx at hi
   split at hi
   ·rename_i hk
    exact ⟨h1,h2,h3,hk,hi⟩
   ·cases hi
  ·omega
 ·contradiction
theorem MH{R P:List Nm}{W:World}:∀{xs:List RefL} {ns:List Int},NsAt W xs ns→Ay R P (xs.map RefL.key) ns=some ns→∀x∈xs,∃n,W.cell? ⟨x.b,x.o+1,none⟩=some (int i64 n)∧(x.to=2→x.nm∈P∧n=(P.idxOf x.nm:Nat))
 | [],_,_,_,x,hx=>by cases hx
 | y::ys,[],h,_,_,_=>h.elim
 | y::ys,n::ns,⟨h1,h2⟩,hi,x,hx=>by
  simp only [List.map_cons,Ay] at hi
  cases hr:Bt R P y.key n with
  | none=>rw [hr] at hi;cases hi
  | some k =>
   cases hA:Ay R P (ys.map RefL.key) ns with
   | none=>rw [hr,hA] at hi;cases hi
   | some ks =>
    rw [hr,hA] at hi;simp only [Option.some.injEq,List.cons.injEq] at hi;obtain ⟨rfl,rfl⟩:=hi;rcases List.mem_cons.1 hx with rfl|hx
    ·refine ⟨k,h1,λht=>?_⟩
     unfold Bt RefL.key at hr;simp only [ht] at hr;rw [if_neg (by decide),if_neg (by decide)] at hr
     split at hr
     ·rename_i hm
      cases hr;exact ⟨hm,rfl⟩
     ·cases hr
    ·exact MH h2 hA x hx
theorem JG{R P:List Nm}:∀{rs:List (Nat×Nm)} {ns ks:List Int},Ay R P rs ns=some ks→∀nm,(2,nm)∈rs→nm∈P
 | [],_,_,_,_,h=>by cases h
 | r::rs,[],_,h,_,_=>by cases h
 | r::rs,n::ns,ks,h,nm,hm=>by
  simp only [Ay] at h
  cases hr:Bt R P r n with
  | none=>rw [hr] at h;cases h
  | some k =>
   cases hA:Ay R P rs ns with
   | none=>rw [hr,hA] at h;cases h
   | some ks' =>
    rcases List.mem_cons.1 hm with rfl|hm
    ·unfold Bt at hr
     rw [if_neg (by simp),if_neg (by simp)] at hr
     split at hr
     ·assumption
     ·cases hr
    ·exact JG hA nm hm
theorem MN{s:Ls}{ns:List Int}{W:World}(h:Dd s.strip ns=0)(hN:NsAt W s.refs ns):NumAt (AI s.strip) W s.refs:=λx hx=>by
 obtain ⟨_,_,_,_,hi⟩:=E7 h;rw [← s.refs_key] at hi;obtain ⟨n,h1,h2⟩:=MH hN hi x hx;exact ⟨n,h1,λht=>(h2 ht).2⟩
theorem Iu(f:Nm→Int):∀(t:Its) (u:Int),u∈t.uses f→∃nm,(2,nm)∈t.refs∧u=f nm
 | .nil,_,h=>by cases h
 | .cons k _ un its ms r,u,h=>by
  simp only [Its.uses,List.mem_append] at h;rcases h with h|h|h
  ·split at h
   ·rename_i hk
    simp at h;exact ⟨un,by simp [Its.refs,By,hk],h⟩
   ·cases h
  ·obtain ⟨nm,h1,h2⟩:=Iu f its u h
   exact ⟨nm,by simp [Its.refs,h1],h2⟩
  ·obtain ⟨nm,h1,h2⟩:=Iu f r u h
   exact ⟨nm,by simp [Its.refs,h1],h2⟩
theorem MQ{s:Sc}{nm:Nm}(h:nm∈s.pnames):∃i:Nat,AI s nm=i∧i<s.phrases.length:=by
 refine ⟨s.pnames.idxOf nm,rfl,?_⟩;have:=List.idxOf_lt_length_iff.2 h;simpa [Sc.pnames] using this
theorem Kd{s:Ls}{ns:List Int}(h:Dd s.strip ns=0):OE s.itsL (AI s.strip):=λt ht u hu=>by
 obtain ⟨_,_,_,_,hi⟩:=E7 h;obtain ⟨nm,h1,rfl⟩:=Iu _ t u hu;obtain ⟨p,hp,rfl⟩:=List.mem_map.1 ht
 have hm:(2,nm)∈s.strip.refs:=by
  unfold Sc.refs;exact List.mem_append.2 (Or.inl (List.mem_flatMap.2 ⟨p.strip,List.mem_map.2 ⟨p,hp,rfl⟩,h1⟩))
 obtain ⟨i,h2,h3⟩:=MQ (JG hi nm hm);exact ⟨i,h2,by simpa [Ls.itsL,Ls.strip] using h3⟩
theorem FE{s:Ls}{ns:List Int}(h:Dd s.strip ns=0){d:Dan}(hd:d∈s.dances):∃i:Nat,AI s.strip d.pn=i∧i<s.phrases.length:=by
 obtain ⟨_,_,_,_,hi⟩:=E7 h
 have hm:(2,d.pn)∈s.strip.refs:=by
  unfold Sc.refs;exact List.mem_append.2 (Or.inr (List.mem_flatMap.2 ⟨d,hd,by simp⟩))
 obtain ⟨i,h2,h3⟩:=MQ (JG hi d.pn hm);exact ⟨i,h2,by simpa [Ls.strip] using h3⟩
theorem Fz{s:Ls}{ns:List Int}(h:Dd s.strip ns=0):s.roles.length≤64∧s.phrases.length≤64∧s.dances.length≤256:=by
 obtain ⟨hl,_⟩:=E7 h;unfold Sc.lims Sc.fit at hl;simp only [Bool.and_eq_true,decide_eq_true_eq] at hl;obtain ⟨⟨h1,_,_,_,h5,h6⟩,_⟩:=hl;simp only [Ls.strip,List.length_map] at h1 h5 h6;exact ⟨h1,h5,h6⟩
def Ir(s:Ls)(f:Nm→Int):Bool:=(inB s.wd 1 1000&&inB s.dp 1 1000)&&((inB s.t0 1 127&&inB s.t1 0 s.t0)&&(s.roles.all (C6 s)&&(decide (C8 ⟨s.bars,s.tempos,s.pauses,s.spans⟩=0)&&(s.phrases.all (λp=>p.its.strip.exB)&&(decide (BG (s.nexts f)=[])&&s.dances.all (CR s f (DR s.itsL f)))))))
def B5(s:Ls)(ns:List Int):Int:=if Dd s.strip ns=0 then (if Ir s (AI s.strip) then 0 else 180) else Dd s.strip ns
def Iy(s:Ls)(ns:List Int)(w:World)(e:Ending)(w':World):Prop:=e=.returned (int i64 (B5 s ns))∧Below w.heap.size w w'
theorem Fc{b:Int}{t:List Tmp}{p:List Pau}{c:List Con}(h:C8 ⟨b,t,p,c⟩=0):1≤b∧b≤4096:=by
 unfold C8 at h
 split at h
 ·split at h
  ·rename_i hb
   unfold E8 C7 at hb;simp only [Bool.and_eq_true] at hb;exact AL.1 hb.1.1.1.1.1
  ·omega
 ·omega
end
section
open Go.RowKit
def Dr(k:Nat):Bool:=k==1||k==3||k==4||k==9
def Fi(k:Nat):Bool:=k==1||k==2||k==3||k==4||k==5
def Dt(k:Nat):Bool:=k==7||k==8
def Cn(k:Nat):Int:=if k==1||k==2 then 1 else 0
def C5(k:Nat):Int:=if k==3||k==4||k==5||k==9 then 3 else 0
def D7(k:Nat):Int:=if k==1||k==2 then 16 else if k==6 then 7 else 0
def FH(k:Nat):List Value:=[.bool (Dr k),.bool (Fi k),.bool (Dt k),int i64 (Cn k),int i64 (C5 k),int i64 (D7 k)]
structure EnvK(w:World):Prop where
 kinds:∀k,k<10→∀j v,(FH k)[j]?=some v→w.cell? ⟨0,k*6+j,none⟩=some v
theorem EnvK.below{w w':World}(h:EnvK w)(hb:Below w.heap.size w w'):EnvK w' where
 kinds k hk j v hv:=by
  have h1:=h.kinds k hk j v hv;exact (hb.cell (p:=⟨0,k*6+j,none⟩) (EF h1)).trans h1
theorem AQ(n lo hi:Int)(w:World):Calls Tryz.prog 44 #[int i64 n,int i64 lo,int i64 hi] w λe w'=>e=.returned (.bool (inB n lo hi))∧w=w':=by
 go_enter Tryz.func44,Tryz.ntmps44;go_wp2
 all_goals
  go_ret;refine ⟨Az ?_,rfl⟩;unfold inB;rw [Bool.eq_iff_iff];simp;omega
theorem DC(n:Int)(u:Bool)(lo hi:Int)(w:World):Calls Tryz.prog 81 #[int i64 n,.bool u,int i64 lo,int i64 hi] w λe w'=>e=.returned (.bool (Cl n u lo hi))∧w=w':=by
 cases u with
 | false =>
  go_enter Tryz.func81,Tryz.ntmps81
  go_wp2_with (go_at_call 44;refine (AQ _ _ _ _).mono ?_;rintro e w' ⟨rfl,rfl⟩);go_ret;exact ⟨Az (by unfold Cl;rw [Bool.eq_iff_iff];simp),rfl⟩
 | true =>
  go_enter Tryz.func81,Tryz.ntmps81
  go_wp2_with (go_at_call 44;refine (AQ _ _ _ _).mono ?_;rintro e w' ⟨rfl,rfl⟩);go_ret;exact ⟨Az (by unfold Cl;simp),rfl⟩
theorem Ea(a b c d:Int)(w:World):(binOp .eql 52 (.agg #[int i64 a,int i64 b]) (.agg #[int i64 c,int i64 d])).run Tryz.prog w=.ok (.bool (a==c&&b==d)) w:=by
 have u3:=Tryz.underlying3;have a3:=Tryz.isAgg3;have z3:=Tryz.sizeOf3;have hS:Tryz.prog.underlying 52=some (.struct (Tryz.prog.fieldsOf 52)):=by kernel_rfl
 have hp:Tryz.prog.stoodInHeld 52=false:=by kernel_rfl
 rw [run_eql_struct,show (10000:Nat)=9999+1 from rfl,run_equalIn_agg w 9999 52 _ _ hS hp];simp only [Program.fieldsOf,Tryz.underlying52];go_simp;by_cases h1:a=c<;>by_cases h2:b=d<;>simp [h1,h2]
def Cm(k:Nat)(side dir level size wth roles:Int):Bool :=
 Cl side (Dr k) 1 2&&Cl dir (Fi k) (Cn k) 8&&Cl level (decide (0<C5 k)) 1 (C5 k)&&Cl size (decide (0<D7 k)) 1 (D7 k)&&Cl wth (Dt k) 1 roles
def E2(fn fd tn td:Int):Bool:=Bh fn fd&&Bh tn td&&decide (0≤fn)&&decide (fn*td<tn*fd)&&decide (tn≤td)
def D4(role bar mark kind side dir level size wth fn fd tn td roles bars:Int):Bool :=
 inB kind 1 9&&inB role 0 (roles-1)&&inB bar 0 (bars-1)&&inB mark 1 3&&Cm kind.toNat side dir level size wth roles&&E2 fn fd tn td
theorem Ct{role bar mark kind side dir level size wth fn fd tn td roles bars:Int}(h:Cm kind.toNat side dir level size wth roles=false):false=D4 role bar mark kind side dir level size wth fn fd tn td roles bars:=by
 unfold D4;rw [h];simp
theorem Cc{role bar mark kind side dir level size wth fn fd tn td roles bars:Int}(h:E2 fn fd tn td=false):false=D4 role bar mark kind side dir level size wth fn fd tn td roles bars:=by
 unfold D4;rw [h];simp
theorem JB{a b:Int}(h:a<b):CQ a b=-1:=by unfold CQ;rw [if_pos h]
theorem JA{a b:Int}(h:b<a):CQ a b=1:=by unfold CQ;rw [if_neg (by omega),if_pos h]
theorem Jz{a b:Int}(h:a=b):CQ a b=0:=by unfold CQ;rw [if_neg (by omega),if_neg (by omega)]
theorem MX{a b c d:Int}(h:Bh a b=false∨Bh c d=false):EJ a b c d=.tuple #[int i64 0,int i64 120]:=by
 unfold EJ;rcases h with h|h<;>rw [h]<;>simp
theorem JS{a b c d:Int}(h1:Bh a b=true)(h2:Bh c d=true):EJ a b c d=.tuple #[int i64 (CQ (a*d) (c*b)),int i64 0]:=by
 unfold EJ;rw [h1,h2];rfl
theorem NX{d:Int}(h:Bh 0 d=true):d=1:=by
 obtain ⟨h1,_,_,_⟩:=JR h;unfold Bh at h;simp only [Bool.and_eq_true,decide_eq_true_eq] at h;have h2:=h.2;rw [show (0:Int).natAbs=0 from rfl,Nat.gcd_zero_left] at h2;omega
theorem S8{fn fd tn td:Int}(h:(fn==tn&&fd==td)=true):E2 fn fd tn td=false:=by
 simp at h;obtain ⟨rfl,rfl⟩:=h;unfold E2;simp
theorem S9{fn fd tn td:Int}(h:fn*td<tn*fd):(tn==fn&&td==fd)=false:=by
 rw [Bool.eq_false_iff];intro e;simp at e;obtain ⟨rfl,rfl⟩:=e;omega
def SI(fn fd tn td z:Int):Prop:=z=0∨(z=1∧Bh fn fd=true∧0≤fn)∨(z=2∧Bh fn fd=true∧Bh tn td=true∧0≤fn∧fn*td<tn*fd) ∨
 (z=3∧Bh fn fd=true∧Bh tn td=true∧0≤fn∧fn*td<tn*fd∧tn≤td)
theorem Sa{fn fd tn td:Int}(h:Bh fn fd=true∧Bh tn td=true∧0≤fn∧fn*td<tn*fd∧tn≤td):E2 fn fd tn td=true:=by
 unfold E2;rw [h.1,h.2.1,decide_eq_true h.2.2.1,decide_eq_true h.2.2.2.1,decide_eq_true h.2.2.2.2];rfl
theorem O8(id role bar mark kind side dir level size wth fn fd tn td roles bars:Int)(ha:0≤roles)(hb:roles≤65536)(hd:-9223372036854775807≤bars)(he:bars≤65536)(w:World)(hE:EnvK w) :
  Calls Tryz.prog 51 #[.agg #[int i64 id,int i64 role,int i64 bar,int i64 mark,int i64 kind,int i64 side,int i64 dir,int i64 level,int i64 size,int i64 wth,int i64 fn,int i64 fd,int i64 tn,int i64 td],int i64 roles,int i64 bars] w
   λe w'=>e=.returned (.bool (D4 role bar mark kind side dir level size wth fn fd tn td roles bars))∧Below w.heap.size w w':=by
 have hL:Below w.heap.size w (w.alloc (.cells #[int i64 id,int i64 role,int i64 bar,int i64 mark,int i64 kind,int i64 side,int i64 dir,int i64 level,int i64 size,int i64 wth,int i64 fn,int i64 fd,int i64 tn,int i64 td] 54)):=(Below.refl _ w).alloc (qn _) _;have hz:w.heap.size<(w.alloc (.cells #[int i64 id,int i64 role,int i64 bar,int i64 mark,int i64 kind,int i64 side,int i64 dir,int i64 level,int i64 size,int i64 wth,int i64 fn,int i64 fd,int i64 tn,int i64 td] 54)).heap.size:=by simp
 have g0:=heap_alloc_new w (.cells #[int i64 id,int i64 role,int i64 bar,int i64 mark,int i64 kind,int i64 side,int i64 dir,int i64 level,int i64 size,int i64 wth,int i64 fn,int i64 fd,int i64 tn,int i64 td] 54);have HE:=qh (hE.below hL);clear hE;go_enter Tryz.func51,Tryz.ntmps51;go_wp2_with fail;generalize w.alloc (.cells #[int i64 id,int i64 role,int i64 bar,int i64 mark,int i64 kind,int i64 side,int i64 dir,int i64 level,int i64 size,int i64 wth,int i64 fn,int i64 fd,int i64 tn,int i64 td] 54)=w0 at *;have hF:=qh hL;clear hL;have G0:=qh g0;have c0:w0.cell? ⟨w.heap.size,0,none⟩=some (int i64 id):=Aa g0 0 rfl;have c1:w0.cell? ⟨w.heap.size,1,none⟩=some (int i64 role):=Aa g0 1 rfl;have c2:w0.cell? ⟨w.heap.size,2,none⟩=some (int i64 bar):=Aa g0 2 rfl;have c3:w0.cell? ⟨w.heap.size,3,none⟩=some (int i64 mark):=Aa g0 3 rfl;have c4:w0.cell? ⟨w.heap.size,4,none⟩=some (int i64 kind):=Aa g0 4 rfl;have c5:w0.cell? ⟨w.heap.size,5,none⟩=some (int i64 side):=Aa g0 5 rfl;have c6:w0.cell? ⟨w.heap.size,6,none⟩=some (int i64 dir):=Aa g0 6 rfl;have c7:w0.cell? ⟨w.heap.size,7,none⟩=some (int i64 level):=Aa g0 7 rfl;have c8:w0.cell? ⟨w.heap.size,8,none⟩=some (int i64 size):=Aa g0 8 rfl;have c9:w0.cell? ⟨w.heap.size,9,none⟩=some (int i64 wth):=Aa g0 9 rfl;have c10:w0.cell? ⟨w.heap.size,10,none⟩=some (int i64 fn):=Aa g0 10 rfl;have c11:w0.cell? ⟨w.heap.size,11,none⟩=some (int i64 fd):=Aa g0 11 rfl;have c12:w0.cell? ⟨w.heap.size,12,none⟩=some (int i64 tn):=Aa g0 12 rfl;have c13:w0.cell? ⟨w.heap.size,13,none⟩=some (int i64 td):=Aa g0 13 rfl;clear g0;refine (AQ kind 1 9 _).mono ?_;rintro e w' ⟨rfl,rfl⟩
 cases h1:inB kind 1 9 with
 | false =>
  go_wp2_with fail;go_ret;exact ⟨Az (by unfold D4;rw [h1];rfl),hF.out⟩
 | true =>
  have H1:=qh h1;clear h1;obtain ⟨k,hk,hf,hg⟩:∃k:Nat,kind=(k:Int)∧1≤k∧k≤9:=⟨kind.toNat,by have:=AL.1 H1.out;omega,by have:=AL.1 H1.out;omega,by have:=AL.1 H1.out;omega⟩;subst hk;go_wp2_with fail;refine (AQ role 0 _ _).mono ?_;rintro e w' ⟨rfl,rfl⟩
  cases h2:inB role 0 (roles-1) with
  | false =>
   go_wp2_with fail;go_ret;exact ⟨Az (by unfold D4;rw [H1.out,h2];rfl),hF.out⟩
  | true =>
   have H2:=qh h2;clear h2;go_wp2_with fail;refine (AQ bar 0 _ _).mono ?_;rintro e w' ⟨rfl,rfl⟩
   cases h3:inB bar 0 (bars-1) with
   | false =>
    go_wp2_with fail;go_ret;exact ⟨Az (by unfold D4;rw [H1.out,H2.out,h3];rfl),hF.out⟩
   | true =>
    have H3:=qh h3;clear h3;go_wp2_with fail;refine (AQ mark 1 3 _).mono ?_;rintro e w' ⟨rfl,rfl⟩
    cases h4:inB mark 1 3 with
    | false =>
     go_wp2_with fail;go_ret;exact ⟨Az (by unfold D4;rw [H1.out,H2.out,H3.out,h4];rfl),hF.out⟩
    | true =>
     have H4:=qh h4;clear h4;have kf:=HE.out.kinds k (by omega);have t0:w0.cell? ⟨0,k*6,none⟩=some (.bool (Dr k)):=kf 0 _ rfl;have t1:w0.cell? ⟨0,k*6+1,none⟩=some (.bool (Fi k)):=kf 1 _ rfl;have t2:w0.cell? ⟨0,k*6+2,none⟩=some (.bool (Dt k)):=kf 2 _ rfl;have t3:w0.cell? ⟨0,k*6+3,none⟩=some (int i64 (Cn k)):=kf 3 _ rfl;have t4:w0.cell? ⟨0,k*6+4,none⟩=some (int i64 (C5 k)):=kf 4 _ rfl;have t5:w0.cell? ⟨0,k*6+5,none⟩=some (int i64 (D7 k)):=kf 5 _ rfl;clear kf;have b1:Below w.heap.size w (w0.alloc (.cells #[.bool (Dr k),.bool (Fi k),.bool (Dt k),int i64 (Cn k),int i64 (C5 k),int i64 (D7 k)] 141)):=hF.out.alloc hF.out.size _;have q0:=(Below.heap_alloc w0 (.cells #[.bool (Dr k),.bool (Fi k),.bool (Dt k),int i64 (Cn k),int i64 (C5 k),int i64 (D7 k)] 141) w.heap.size (by omega)).trans G0.out;have q1:=heap_alloc_new w0 (.cells #[.bool (Dr k),.bool (Fi k),.bool (Dt k),int i64 (Cn k),int i64 (C5 k),int i64 (D7 k)] 141);have hT:(w0.alloc (.cells #[.bool (Dr k),.bool (Fi k),.bool (Dt k),int i64 (Cn k),int i64 (C5 k),int i64 (D7 k)] 141)).heap.size=w0.heap.size+1:=by simp
     go_wp2_with fail;generalize w0.alloc (.cells #[.bool (Dr k),.bool (Fi k),.bool (Dt k),int i64 (Cn k),int i64 (C5 k),int i64 (D7 k)] 141)=w1 at *;have hG:=qh b1;clear b1 hF;have hh:w.heap.size<w1.heap.size:=by omega
     have hi:w0.heap.size<w1.heap.size:=by omega
     clear hT;have Q0:=qh q0;have Q1:=qh q1;clear c0 c1 c2 c3 c4 c5 c6 c7 c8 c9 c10 c11 c12 c13 t0 t1 t2 t3 t4 t5 HE;have c0:w1.cell? ⟨w.heap.size,0,none⟩=some (int i64 id):=Aa q0 0 rfl;have c1:w1.cell? ⟨w.heap.size,1,none⟩=some (int i64 role):=Aa q0 1 rfl;have c2:w1.cell? ⟨w.heap.size,2,none⟩=some (int i64 bar):=Aa q0 2 rfl;have c3:w1.cell? ⟨w.heap.size,3,none⟩=some (int i64 mark):=Aa q0 3 rfl;have c4:w1.cell? ⟨w.heap.size,4,none⟩=some (int i64 (k:Int)):=Aa q0 4 rfl;have c5:w1.cell? ⟨w.heap.size,5,none⟩=some (int i64 side):=Aa q0 5 rfl;have c6:w1.cell? ⟨w.heap.size,6,none⟩=some (int i64 dir):=Aa q0 6 rfl;have c7:w1.cell? ⟨w.heap.size,7,none⟩=some (int i64 level):=Aa q0 7 rfl;have c8:w1.cell? ⟨w.heap.size,8,none⟩=some (int i64 size):=Aa q0 8 rfl;have c9:w1.cell? ⟨w.heap.size,9,none⟩=some (int i64 wth):=Aa q0 9 rfl;have c10:w1.cell? ⟨w.heap.size,10,none⟩=some (int i64 fn):=Aa q0 10 rfl;have c11:w1.cell? ⟨w.heap.size,11,none⟩=some (int i64 fd):=Aa q0 11 rfl;have c12:w1.cell? ⟨w.heap.size,12,none⟩=some (int i64 tn):=Aa q0 12 rfl;have c13:w1.cell? ⟨w.heap.size,13,none⟩=some (int i64 td):=Aa q0 13 rfl;have t0:w1.cell? ⟨w0.heap.size,0,none⟩=some (.bool (Dr k)):=Aa q1 0 rfl;have t1:w1.cell? ⟨w0.heap.size,1,none⟩=some (.bool (Fi k)):=Aa q1 1 rfl;have t2:w1.cell? ⟨w0.heap.size,2,none⟩=some (.bool (Dt k)):=Aa q1 2 rfl;have t3:w1.cell? ⟨w0.heap.size,3,none⟩=some (int i64 (Cn k)):=Aa q1 3 rfl;have t4:w1.cell? ⟨w0.heap.size,4,none⟩=some (int i64 (C5 k)):=Aa q1 4 rfl;have t5:w1.cell? ⟨w0.heap.size,5,none⟩=some (int i64 (D7 k)):=Aa q1 5 rfl;clear q0 q1;refine (DC side (Dr k) 1 2 _).mono ?_;rintro e w' ⟨rfl,rfl⟩
     cases f0:Cl side (Dr k) 1 2 with
     | false =>
      go_wp2_with fail;go_ret;exact ⟨Az (by exact Ct (by unfold Cm;rw [Int.toNat_natCast,f0];simp)),hG.out⟩
     | true =>
      have F0:=qh f0;clear f0;go_wp2_with fail;refine (DC dir (Fi k) (Cn k) 8 _).mono ?_;rintro e w' ⟨rfl,rfl⟩
      cases f1:Cl dir (Fi k) (Cn k) 8 with
      | false =>
       go_wp2_with fail;go_ret;exact ⟨Az (by exact Ct (by unfold Cm;rw [Int.toNat_natCast,F0.out,f1];simp)),hG.out⟩
      | true =>
       have F1:=qh f1;clear f1;go_wp2_with fail;refine (DC level _ 1 (C5 k) _).mono ?_;rintro e w' ⟨rfl,rfl⟩
       cases f2:Cl level (decide (0<C5 k)) 1 (C5 k) with
       | false =>
        go_wp2_with fail;go_ret;exact ⟨Az (by exact Ct (by unfold Cm;rw [Int.toNat_natCast,F0.out,F1.out,f2];simp)),hG.out⟩
       | true =>
        have F2:=qh f2;clear f2;go_wp2_with fail;refine (DC size _ 1 (D7 k) _).mono ?_;rintro e w' ⟨rfl,rfl⟩
        cases f3:Cl size (decide (0<D7 k)) 1 (D7 k) with
        | false =>
         go_wp2_with fail;go_ret;exact ⟨Az (by exact Ct (by unfold Cm;rw [Int.toNat_natCast,F0.out,F1.out,F2.out,f3];simp)),hG.out⟩
        | true =>
         have F3:=qh f3;clear f3;go_wp2_with fail;refine (DC wth (Dt k) 1 roles _).mono ?_;rintro e w' ⟨rfl,rfl⟩
         cases f4:Cl wth (Dt k) 1 roles with
         | false =>
          go_wp2_with fail;go_ret;exact ⟨Az (by exact Ct (by unfold Cm;rw [Int.toNat_natCast,F0.out,F1.out,F2.out,F3.out,f4];simp)),hG.out⟩
         | true =>
          have F4:=qh f4;clear f4;go_wp2_with fail
          have r0:(((w1.alloc (.cells #[int i64 0,int i64 1] 52)).alloc (.cells #[int i64 1,int i64 1] 52)).alloc (.cells #[int i64 0,int i64 1,int i64 fn,int i64 fd,int i64 fn,int i64 fd,int i64 tn,int i64 td,int i64 tn,int i64 td,int i64 1,int i64 1] 144)).heap[w.heap.size]?=some (.cells #[int i64 id,int i64 role,int i64 bar,int i64 mark,int i64 (k:Int),int i64 side,int i64 dir,int i64 level,int i64 size,int i64 wth,int i64 fn,int i64 fd,int i64 tn,int i64 td] 54 (0,0)):=by
           rw [Below.heap_alloc _ _ _ (by simp;omega),Below.heap_alloc _ _ _ (by simp;omega),Below.heap_alloc _ _ _ (by omega)];exact Q0.out
          have r1:(((w1.alloc (.cells #[int i64 0,int i64 1] 52)).alloc (.cells #[int i64 1,int i64 1] 52)).alloc (.cells #[int i64 0,int i64 1,int i64 fn,int i64 fd,int i64 fn,int i64 fd,int i64 tn,int i64 td,int i64 tn,int i64 td,int i64 1,int i64 1] 144)).heap[w1.heap.size+2]?=some (.cells #[int i64 0,int i64 1,int i64 fn,int i64 fd,int i64 fn,int i64 fd,int i64 tn,int i64 td,int i64 tn,int i64 td,int i64 1,int i64 1] 144 (0,0)):=by
           have:=heap_alloc_new ((w1.alloc (.cells #[int i64 0,int i64 1] 52)).alloc (.cells #[int i64 1,int i64 1] 52)) (.cells #[int i64 0,int i64 1,int i64 fn,int i64 fd,int i64 fn,int i64 fd,int i64 tn,int i64 td,int i64 tn,int i64 td,int i64 1,int i64 1] 144);simpa using this
          have hP:Below w.heap.size w (((w1.alloc (.cells #[int i64 0,int i64 1] 52)).alloc (.cells #[int i64 1,int i64 1] 52)).alloc (.cells #[int i64 0,int i64 1,int i64 fn,int i64 fd,int i64 fn,int i64 fd,int i64 tn,int i64 td,int i64 tn,int i64 td,int i64 1,int i64 1] 144)):=((hG.out.alloc (by omega) _).alloc (by simp;omega) _).alloc (by simp;omega) _;have hU:(((w1.alloc (.cells #[int i64 0,int i64 1] 52)).alloc (.cells #[int i64 1,int i64 1] 52)).alloc (.cells #[int i64 0,int i64 1,int i64 fn,int i64 fd,int i64 fn,int i64 fd,int i64 tn,int i64 td,int i64 tn,int i64 td,int i64 1,int i64 1] 144)).heap.size=w1.heap.size+3:=by simp
          generalize (((w1.alloc (.cells #[int i64 0,int i64 1] 52)).alloc (.cells #[int i64 1,int i64 1] 52)).alloc (.cells #[int i64 0,int i64 1,int i64 fn,int i64 fd,int i64 fn,int i64 fd,int i64 tn,int i64 td,int i64 tn,int i64 td,int i64 1,int i64 1] 144))=w3 at *;have hV:w.heap.size<w3.heap.size:=by omega
          have hW:w1.heap.size+2<w3.heap.size:=by omega
          clear c0 c1 c2 c3 c4 c5 c6 c7 c8 c9 c10 c11 c12 c13 t0 t1 t2 t3 t4 t5 hU;generalize w1.heap.size=gs at *;have hQ:=qh r0;have hR:=qh r1;have hS:=qh hP;clear r0 r1 hP hG Q0 Q1;have HF:Hid (Cm ((k:Int).toNat) side dir level size wth roles=true):=qh (by unfold Cm;rw [Int.toNat_natCast,F0.out,F1.out,F2.out,F3.out,F4.out];rfl);clear F0 F1 F2 F3 F4;go_loopw [108] (λi wr=>∃z:Int,i=int i64 z∧SI fn fd tn td z∧Hid (wr.heap[w.heap.size]?=some (.cells #[int i64 id,int i64 role,int i64 bar,int i64 mark,int i64 (k:Int),int i64 side,int i64 dir,int i64 level,int i64 size,int i64 wth,int i64 fn,int i64 fd,int i64 tn,int i64 td] 54 (0,0)))∧Hid (wr.heap[gs+2]?=some (.cells #[int i64 0,int i64 1,int i64 fn,int i64 fd,int i64 fn,int i64 fd,int i64 tn,int i64 td,int i64 tn,int i64 td,int i64 1,int i64 1] 144 (0,0)))∧w.heap.size<wr.heap.size∧gs+2<wr.heap.size∧Hid (Below w.heap.size w wr)) (λi _=>(3-intOf i).toNat)
          case atStart=>exact ⟨0,rfl,Or.inl rfl,hQ,hR,hV,hW,hS⟩
          case round =>
           obtain ⟨z,rfl,hX,hK,hB,hM,hN,hH⟩:=hrel;clear hQ hR hS;rcases hX with rfl|⟨rfl,hs⟩|⟨rfl,hs⟩|⟨rfl,hs⟩
           ·have e0:wr.cell? ⟨gs+2,0,none⟩=some (int i64 0):=Aa hB.out 0 rfl
            have e1:wr.cell? ⟨gs+2,1,none⟩=some (int i64 1):=Aa hB.out 1 rfl;have e2:wr.cell? ⟨gs+2,2,none⟩=some (int i64 fn):=Aa hB.out 2 rfl;have e3:wr.cell? ⟨gs+2,3,none⟩=some (int i64 fd):=Aa hB.out 3 rfl;have x0:=(Below.heap_alloc wr (.cells #[int i64 0,int i64 1,int i64 fn,int i64 fd] 144) w.heap.size hM).trans hK.out;have x1:=(Below.heap_alloc wr (.cells #[int i64 0,int i64 1,int i64 fn,int i64 fd] 144) (gs+2) hN).trans hB.out;have x2:=heap_alloc_new wr (.cells #[int i64 0,int i64 1,int i64 fn,int i64 fd] 144);have x3:Below w.heap.size w (wr.alloc (.cells #[int i64 0,int i64 1,int i64 fn,int i64 fd] 144)):=hH.out.alloc (by omega) _;have x4:(wr.alloc (.cells #[int i64 0,int i64 1,int i64 fn,int i64 fd] 144)).heap.size=wr.heap.size+1:=by simp
            have X0:=qh x0;have X1:=qh x1;have X2:=qh x2;have X3:=qh x3;have X4:=qh x4;clear x0 x1 x2 x3 x4;go_wp2_with fail;refine (Ef 0 1 fn fd _).mono ?_;rintro e w5 ⟨rfl,b5⟩;have hD:=b5.size;rw [X4.out] at hD;have y0:=(b5.block _ (by rw [X4.out];omega)).trans X0.out;have y1:=(b5.block _ (by rw [X4.out];omega)).trans X1.out;have y2:=(b5.block _ (by rw [X4.out];omega)).trans X2.out;have hC:=qh (X3.out.trans (b5.mono (by rw [X4.out];omega)));have Y0:=qh y0;have Y1:=qh y1;clear b5 X0 X1 X2 X3 X4 hK hB hH;generalize wr.heap.size=gw at *;have l0:w5.cell? ⟨gw,0,none⟩=some (int i64 0):=Aa y2 0 rfl;have l1:w5.cell? ⟨gw,1,none⟩=some (int i64 1):=Aa y2 1 rfl;have l2:w5.cell? ⟨gw,2,none⟩=some (int i64 fn):=Aa y2 2 rfl;have l3:w5.cell? ⟨gw,3,none⟩=some (int i64 fd):=Aa y2 3 rfl;have b10:w5.cell? ⟨w.heap.size,10,none⟩=some (int i64 fn):=Aa y0 10 rfl;have b11:w5.cell? ⟨w.heap.size,11,none⟩=some (int i64 fd):=Aa y0 11 rfl;have b12:w5.cell? ⟨w.heap.size,12,none⟩=some (int i64 tn):=Aa y0 12 rfl;have b13:w5.cell? ⟨w.heap.size,13,none⟩=some (int i64 td):=Aa y0 13 rfl;clear y0 y1 y2 e0 e1 e2 e3;have hI:w.heap.size<w5.heap.size:=by omega
            have hJ:gs+2<w5.heap.size:=by omega
            clear hD
            cases hA:Bh fn fd with
            | false =>
             rw [MX (Or.inr hA)];go_wp2_with fail;go_ret;exact ⟨Az (Cc (by unfold E2;rw [hA];simp)),hC.out⟩
            | true =>
             have HA:=qh hA;clear hA;rw [JS (by decide) HA.out];rcases Int.lt_trichotomy fn 0 with h|h|h
             ·have hc:CQ (0*fd) (fn*1)=1:=JA (by omega)
              rw [hc];have HH:=qh h;clear h hc;go_wp2_with fail;go_ret;exact ⟨Az (Cc (by unfold E2;rw [decide_eq_false (show ¬0≤fn by have:=HH.out;omega)];simp)),hC.out⟩
             ·have hO:=NX (by rw [← h];exact HA.out)
              have hc:CQ (0*fd) (fn*1)=0:=Jz (by omega);rw [hc];have f1:((0:Int)==fn)=true:=by simpa using h.symm
              have f2:((1:Int)==fd)=true:=by simpa using hO.symm
              have HH:=qh h;have hj:=qh hO;clear h hc hO;have hq:=Ea 0 1 fn fd;have hY:=Ea fn fd tn td;by_cases hw:(fn==tn&&fd==td)=true
              ·have HW:=qh hw
               go_wp2_with fail;go_ret;exact ⟨Az (Cc (S8 HW.out)),hC.out⟩
              ·have hl:(fn==tn&&fd==td)=false:=by simpa using hw
               clear hw;go_wp2_with fail;go_roundw
               case rel=>exact ⟨1,rfl,Or.inr (Or.inl ⟨rfl,HA.out,by have:=HH.out;omega⟩),Y0,Y1,hI,hJ,hC⟩
               case measure=>simp [intOf]
             ·have hc:CQ (0*fd) (fn*1)=-1:=JB (by omega)
              rw [hc];have HH:=qh h;clear h hc;go_wp2_with fail;go_roundw
              case rel=>exact ⟨1,rfl,Or.inr (Or.inl ⟨rfl,HA.out,by have:=HH.out;omega⟩),Y0,Y1,hI,hJ,hC⟩
              case measure=>simp [intOf]
           ·have HS:=qh hs;clear hs
            have e0:wr.cell? ⟨gs+2,4,none⟩=some (int i64 fn):=Aa hB.out 4 rfl;have e1:wr.cell? ⟨gs+2,5,none⟩=some (int i64 fd):=Aa hB.out 5 rfl;have e2:wr.cell? ⟨gs+2,6,none⟩=some (int i64 tn):=Aa hB.out 6 rfl;have e3:wr.cell? ⟨gs+2,7,none⟩=some (int i64 td):=Aa hB.out 7 rfl;have x0:=(Below.heap_alloc wr (.cells #[int i64 fn,int i64 fd,int i64 tn,int i64 td] 144) w.heap.size hM).trans hK.out;have x1:=(Below.heap_alloc wr (.cells #[int i64 fn,int i64 fd,int i64 tn,int i64 td] 144) (gs+2) hN).trans hB.out;have x2:=heap_alloc_new wr (.cells #[int i64 fn,int i64 fd,int i64 tn,int i64 td] 144);have x3:Below w.heap.size w (wr.alloc (.cells #[int i64 fn,int i64 fd,int i64 tn,int i64 td] 144)):=hH.out.alloc (by omega) _;have x4:(wr.alloc (.cells #[int i64 fn,int i64 fd,int i64 tn,int i64 td] 144)).heap.size=wr.heap.size+1:=by simp
            have X0:=qh x0;have X1:=qh x1;have X2:=qh x2;have X3:=qh x3;have X4:=qh x4;clear x0 x1 x2 x3 x4;go_wp2_with fail;refine (Ef fn fd tn td _).mono ?_;rintro e w5 ⟨rfl,b5⟩;have hD:=b5.size;rw [X4.out] at hD;have y0:=(b5.block _ (by rw [X4.out];omega)).trans X0.out;have y1:=(b5.block _ (by rw [X4.out];omega)).trans X1.out;have y2:=(b5.block _ (by rw [X4.out];omega)).trans X2.out;have hC:=qh (X3.out.trans (b5.mono (by rw [X4.out];omega)));have Y0:=qh y0;have Y1:=qh y1;clear b5 X0 X1 X2 X3 X4 hK hB hH;generalize wr.heap.size=gw at *;have l0:w5.cell? ⟨gw,0,none⟩=some (int i64 fn):=Aa y2 0 rfl;have l1:w5.cell? ⟨gw,1,none⟩=some (int i64 fd):=Aa y2 1 rfl;have l2:w5.cell? ⟨gw,2,none⟩=some (int i64 tn):=Aa y2 2 rfl;have l3:w5.cell? ⟨gw,3,none⟩=some (int i64 td):=Aa y2 3 rfl;have b10:w5.cell? ⟨w.heap.size,10,none⟩=some (int i64 fn):=Aa y0 10 rfl;have b11:w5.cell? ⟨w.heap.size,11,none⟩=some (int i64 fd):=Aa y0 11 rfl;have b12:w5.cell? ⟨w.heap.size,12,none⟩=some (int i64 tn):=Aa y0 12 rfl;have b13:w5.cell? ⟨w.heap.size,13,none⟩=some (int i64 td):=Aa y0 13 rfl;clear y0 y1 y2 e0 e1 e2 e3;have hI:w.heap.size<w5.heap.size:=by omega
            have hJ:gs+2<w5.heap.size:=by omega
            clear hD
            cases hA:Bh tn td with
            | false =>
             rw [MX (Or.inr hA)];go_wp2_with fail;go_ret;exact ⟨Az (Cc (by unfold E2;rw [hA];simp)),hC.out⟩
            | true =>
             have HA:=qh hA;clear hA;rw [JS HS.out.1 HA.out];rcases Int.lt_trichotomy (fn*td) (tn*fd) with h|h|h
             ·have hc:CQ (fn*td) (tn*fd)=-1:=JB h
              rw [hc];have HH:=qh h;clear h hc;go_wp2_with fail;go_roundw
              case rel=>exact ⟨2,rfl,Or.inr (Or.inr (Or.inl ⟨rfl,HS.out.1,HA.out,HS.out.2,HH.out⟩)),Y0,Y1,hI,hJ,hC⟩
              case measure=>simp [intOf]
             ·have hc:CQ (fn*td) (tn*fd)=0:=Jz h
              rw [hc];have HH:=qh h;clear h hc;have hq:=Ea fn fd fn fd;have hY:=Ea tn td tn td;go_wp2_with fail;go_ret;exact ⟨Az (Cc (by unfold E2;rw [decide_eq_false (show ¬fn*td<tn*fd by rw [HH.out];exact Int.lt_irrefl _)];simp)),hC.out⟩
             ·have hc:CQ (fn*td) (tn*fd)=1:=JA h
              rw [hc];have HH:=qh h;clear h hc;go_wp2_with fail;go_ret;exact ⟨Az (Cc (by unfold E2;rw [decide_eq_false (show ¬fn*td<tn*fd from Int.not_lt.2 (Int.le_of_lt HH.out))];simp)),hC.out⟩
           ·have HS:=qh hs;clear hs
            have e0:wr.cell? ⟨gs+2,8,none⟩=some (int i64 tn):=Aa hB.out 8 rfl;have e1:wr.cell? ⟨gs+2,9,none⟩=some (int i64 td):=Aa hB.out 9 rfl;have e2:wr.cell? ⟨gs+2,10,none⟩=some (int i64 1):=Aa hB.out 10 rfl;have e3:wr.cell? ⟨gs+2,11,none⟩=some (int i64 1):=Aa hB.out 11 rfl;have x0:=(Below.heap_alloc wr (.cells #[int i64 tn,int i64 td,int i64 1,int i64 1] 144) w.heap.size hM).trans hK.out;have x1:=(Below.heap_alloc wr (.cells #[int i64 tn,int i64 td,int i64 1,int i64 1] 144) (gs+2) hN).trans hB.out;have x2:=heap_alloc_new wr (.cells #[int i64 tn,int i64 td,int i64 1,int i64 1] 144);have x3:Below w.heap.size w (wr.alloc (.cells #[int i64 tn,int i64 td,int i64 1,int i64 1] 144)):=hH.out.alloc (by omega) _;have x4:(wr.alloc (.cells #[int i64 tn,int i64 td,int i64 1,int i64 1] 144)).heap.size=wr.heap.size+1:=by simp
            have X0:=qh x0;have X1:=qh x1;have X2:=qh x2;have X3:=qh x3;have X4:=qh x4;clear x0 x1 x2 x3 x4;go_wp2_with fail;refine (Ef tn td 1 1 _).mono ?_;rintro e w5 ⟨rfl,b5⟩;have hD:=b5.size;rw [X4.out] at hD;have y0:=(b5.block _ (by rw [X4.out];omega)).trans X0.out;have y1:=(b5.block _ (by rw [X4.out];omega)).trans X1.out;have y2:=(b5.block _ (by rw [X4.out];omega)).trans X2.out;have hC:=qh (X3.out.trans (b5.mono (by rw [X4.out];omega)));have Y0:=qh y0;have Y1:=qh y1;clear b5 X0 X1 X2 X3 X4 hK hB hH;generalize wr.heap.size=gw at *;have l0:w5.cell? ⟨gw,0,none⟩=some (int i64 tn):=Aa y2 0 rfl;have l1:w5.cell? ⟨gw,1,none⟩=some (int i64 td):=Aa y2 1 rfl;have l2:w5.cell? ⟨gw,2,none⟩=some (int i64 1):=Aa y2 2 rfl;have l3:w5.cell? ⟨gw,3,none⟩=some (int i64 1):=Aa y2 3 rfl;have b10:w5.cell? ⟨w.heap.size,10,none⟩=some (int i64 fn):=Aa y0 10 rfl;have b11:w5.cell? ⟨w.heap.size,11,none⟩=some (int i64 fd):=Aa y0 11 rfl;have b12:w5.cell? ⟨w.heap.size,12,none⟩=some (int i64 tn):=Aa y0 12 rfl;have b13:w5.cell? ⟨w.heap.size,13,none⟩=some (int i64 td):=Aa y0 13 rfl;clear y0 y1 y2 e0 e1 e2 e3;have hI:w.heap.size<w5.heap.size:=by omega
            have hJ:gs+2<w5.heap.size:=by omega
            clear hD;rw [JS HS.out.2.1 (by decide)];rcases Int.lt_trichotomy tn td with h|h|h
            ·have hc:CQ (tn*1) (1*td)=-1:=JB (by omega)
             rw [hc];have HH:=qh h;clear h hc;go_wp2_with fail;go_roundw
             case rel=>exact ⟨3,rfl,Or.inr (Or.inr (Or.inr ⟨rfl,HS.out.1,HS.out.2.1,HS.out.2.2.1,HS.out.2.2.2,by have:=HH.out;omega⟩)),Y0,Y1,hI,hJ,hC⟩
             case measure=>simp [intOf]
            ·have hc:CQ (tn*1) (1*td)=0:=Jz (by omega)
             rw [hc];have HH:=qh h;clear h hc;have hq:=Ea tn td fn fd;have hZ:(tn==fn&&td==fd)=false:=S9 HS.out.2.2.2;have hm:=qh hZ;go_wp2_with fail;go_roundw
             case rel=>exact ⟨3,rfl,Or.inr (Or.inr (Or.inr ⟨rfl,HS.out.1,HS.out.2.1,HS.out.2.2.1,HS.out.2.2.2,by have:=HH.out;omega⟩)),Y0,Y1,hI,hJ,hC⟩
             case measure=>simp [intOf]
            ·have hc:CQ (tn*1) (1*td)=1:=JA (by omega)
             rw [hc];have HH:=qh h;clear h hc;go_wp2_with fail;go_ret;exact ⟨Az (Cc (by unfold E2;rw [decide_eq_false (show ¬tn≤td by have:=HH.out;omega)];simp)),hC.out⟩
           ·have HS:=qh hs;clear hs
            go_wp2_with fail;go_ret;exact ⟨Az (by unfold D4;rw [H1.out,H2.out,H3.out,H4.out,HF.out,Sa HS.out];rfl),hH.out⟩
theorem It(d n:Int):Nat.gcd n.natAbs (d.tmod n).natAbs=Nat.gcd d.natAbs n.natAbs:=by
 rw [Int.natAbs_tmod,Nat.gcd_comm n.natAbs,← Nat.gcd_rec,Nat.gcd_comm]
theorem Ka(d n:Int)(h:n≠0):(d.tmod n).natAbs<n.natAbs:=by
 rw [Int.natAbs_tmod];exact Nat.mod_lt _ (by omega)
theorem E5{d n:Int}(h1:-1073741824≤d)(h2:d≤1073741824):-1073741824≤d.tmod n∧d.tmod n≤1073741824:=by
 have:(d.tmod n).natAbs≤d.natAbs:=by rw [Int.natAbs_tmod];exact Nat.mod_le _ _
 omega
theorem LE(g:Nat)(A B C:Int)(w:World)(hA:-1073741824≤A∧A≤1073741824)(hB:-1073741824≤B∧B≤1073741824)(hC:-1073741824≤C∧C≤1073741824)(hg:w.heap[g]?=some (.cells #[int i64 A,int i64 B,int i64 C] 3 (0,0))) :
  Calls Tryz.prog 96 #[.slice (some ⟨g,0,none⟩) 3 3] w λe w'=>e=.returned (int i64 ((Nat.gcd (Nat.gcd A.natAbs B.natAbs) C.natAbs:Nat):Int))∧∃k,w'=w.drewN k:=by
 have HG:=qh hg;clear hg;go_enter Tryz.func96,Tryz.ntmps96;go_wp2_with fail
 go_loopw [2,7] (λdv iv wr=>∃(z d:Int) (k:Nat),iv=int i64 z∧dv=int i64 d∧-1073741824≤d∧d≤1073741824∧wr=w.drewN k ∧
   ((z=0∧d=0)∨(z=1∧Hid (d.natAbs=A.natAbs))∨(z=2∧Hid (d.natAbs=Nat.gcd A.natAbs B.natAbs))∨(z=3∧Hid (d.natAbs=Nat.gcd (Nat.gcd A.natAbs B.natAbs) C.natAbs)))) (λ_ iv _=>(3-intOf iv).toNat)
 case atStart=>exact ⟨0,0,0,rfl,rfl,by omega,by omega,rfl,Or.inl ⟨rfl,rfl⟩⟩
 case round =>
  obtain ⟨z,d,k,rfl,rfl,hF,hG,rfl,hz⟩:=hrel;rcases hz with ⟨rfl,rfl⟩|⟨rfl,hd⟩|⟨rfl,hd⟩|⟨rfl,hd⟩
  ·have e0:(w.drewN k).cell? ⟨g,0,none⟩=some (int i64 A):=Aa HG.out 0 rfl
   have hD:=hA.1;have hE:=hA.2;go_wp2_with fail;clear e0;go_loopw [2,4] (λdv nv wr=>∃(d n:Int) (k:Nat),dv=int i64 d∧nv=int i64 n∧-1073741824≤d∧d≤1073741824∧-1073741824≤n∧n≤1073741824∧wr=w.drewN k∧Hid (Nat.gcd d.natAbs n.natAbs=A.natAbs)) (λ_ nv _=>(intOf nv).natAbs)
   case atStart=>exact ⟨_,_,k,rfl,rfl,by omega,by omega,hD,hE,rfl,qh (by rw [show (0:Int).natAbs=0 from rfl,Nat.gcd_zero_left])⟩
   case round =>
    clear hD hE hF hG;obtain ⟨d,n,k,rfl,rfl,hF,hG,hK,hL,rfl,hH⟩:=hrel;by_cases hn:n=0
    ·have f1:(n != 0)=false:=by simpa using hn
     have hM:=qh hn;clear hn;go_wp2_with fail;go_roundw
     case rel=>exact ⟨1,d,k,by go_num,rfl,hF,hG,rfl,Or.inr (Or.inl ⟨rfl,qh (by have h1:=hH.out;rw [hM.out,show (0:Int).natAbs=0 from rfl,Nat.gcd_zero_right] at h1;exact h1)⟩)⟩
     case measure=>simp [intOf]
    ·have f1:(n != 0)=true:=by simpa using hn
     have hI:=Ka d n hn;have hb:=E5 hF hG (n:=n);have hD:=hb.1;have hE:=hb.2;have hJ:IntKind.i64.wrap (d.tmod n)=d.tmod n:=IntWalk.i64_in _ (by omega);have HW:=qh hJ;have hN:=qh hI;clear hb hJ hI;generalize hm:d.tmod n=m at *;have HM:=qh hm;clear hm;go_wp2_with fail;go_quiet (fail)
     try rw [HM.out]
     try rw [HW.out]
     go_wp2_with fail;go_roundw
     case rel=>exact ⟨n,m,k+nq,rfl,rfl,hK,hL,hD,hE,by simp,qh (by rw [← HM.out,It];exact hH.out)⟩
     case measure=>simp [intOf];exact hN.out
  ·have e0:(w.drewN k).cell? ⟨g,1,none⟩=some (int i64 B):=Aa HG.out 1 rfl
   have hD:=hB.1;have hE:=hB.2;go_wp2_with fail;clear e0;go_loopw [2,4] (λdv nv wr=>∃(d n:Int) (k:Nat),dv=int i64 d∧nv=int i64 n∧-1073741824≤d∧d≤1073741824∧-1073741824≤n∧n≤1073741824∧wr=w.drewN k∧Hid (Nat.gcd d.natAbs n.natAbs=Nat.gcd A.natAbs B.natAbs)) (λ_ nv _=>(intOf nv).natAbs)
   case atStart=>exact ⟨_,_,k,rfl,rfl,by omega,by omega,hD,hE,rfl,qh (by rw [hd.out])⟩
   case round =>
    clear hD hE hF hG hd;obtain ⟨d,n,k,rfl,rfl,hF,hG,hK,hL,rfl,hH⟩:=hrel;by_cases hn:n=0
    ·have f1:(n != 0)=false:=by simpa using hn
     have hM:=qh hn;clear hn;go_wp2_with fail;go_roundw
     case rel=>exact ⟨2,d,k,by go_num,rfl,hF,hG,rfl,Or.inr (Or.inr (Or.inl ⟨rfl,qh (by have h1:=hH.out;rw [hM.out,show (0:Int).natAbs=0 from rfl,Nat.gcd_zero_right] at h1;exact h1)⟩))⟩
     case measure=>simp [intOf]
    ·have f1:(n != 0)=true:=by simpa using hn
     have hI:=Ka d n hn;have hb:=E5 hF hG (n:=n);have hD:=hb.1;have hE:=hb.2;have hJ:IntKind.i64.wrap (d.tmod n)=d.tmod n:=IntWalk.i64_in _ (by omega);have HW:=qh hJ;have hN:=qh hI;clear hb hJ hI;generalize hm:d.tmod n=m at *;have HM:=qh hm;clear hm;go_wp2_with fail;go_quiet (fail)
     try rw [HM.out]
     try rw [HW.out]
     go_wp2_with fail;go_roundw
     case rel=>exact ⟨n,m,k+nq,rfl,rfl,hK,hL,hD,hE,by simp,qh (by rw [← HM.out,It];exact hH.out)⟩
     case measure=>simp [intOf];exact hN.out
  ·have e0:(w.drewN k).cell? ⟨g,2,none⟩=some (int i64 C):=Aa HG.out 2 rfl
   have hD:=hC.1;have hE:=hC.2;go_wp2_with fail;clear e0;go_loopw [2,4] (λdv nv wr=>∃(d n:Int) (k:Nat),dv=int i64 d∧nv=int i64 n∧-1073741824≤d∧d≤1073741824∧-1073741824≤n∧n≤1073741824∧wr=w.drewN k∧Hid (Nat.gcd d.natAbs n.natAbs=Nat.gcd (Nat.gcd A.natAbs B.natAbs) C.natAbs)) (λ_ nv _=>(intOf nv).natAbs)
   case atStart=>exact ⟨_,_,k,rfl,rfl,by omega,by omega,hD,hE,rfl,qh (by rw [hd.out])⟩
   case round =>
    clear hD hE hF hG hd;obtain ⟨d,n,k,rfl,rfl,hF,hG,hK,hL,rfl,hH⟩:=hrel;by_cases hn:n=0
    ·have f1:(n != 0)=false:=by simpa using hn
     have hM:=qh hn;clear hn;go_wp2_with fail;go_roundw
     case rel=>exact ⟨3,d,k,by go_num,rfl,hF,hG,rfl,Or.inr (Or.inr (Or.inr ⟨rfl,qh (by have h1:=hH.out;rw [hM.out,show (0:Int).natAbs=0 from rfl,Nat.gcd_zero_right] at h1;exact h1)⟩))⟩
     case measure=>simp [intOf]
    ·have f1:(n != 0)=true:=by simpa using hn
     have hI:=Ka d n hn;have hb:=E5 hF hG (n:=n);have hD:=hb.1;have hE:=hb.2;have hJ:IntKind.i64.wrap (d.tmod n)=d.tmod n:=IntWalk.i64_in _ (by omega);have HW:=qh hJ;have hN:=qh hI;clear hb hJ hI;generalize hm:d.tmod n=m at *;have HM:=qh hm;clear hm;go_wp2_with fail;go_quiet (fail)
     try rw [HM.out]
     try rw [HW.out]
     go_wp2_with fail;go_roundw
     case rel=>exact ⟨n,m,k+nq,rfl,rfl,hK,hL,hD,hE,by simp,qh (by rw [← HM.out,It];exact hH.out)⟩
     case measure=>simp [intOf];exact hN.out
  ·go_wp2_with fail
   all_goals
    go_ret;exact ⟨AK (by rw [← hd.out];omega),k,rfl⟩
theorem JF{w:World}{g:Nat}{xs:Array Value}{t:TypeId}(h:w.heap[g]?=some (.cells xs t (0,0)))(r:Nat):w.frozen? ⟨g,r,none⟩=false:=by
 simp [World.frozen?,h]
def D9(a b c:Int):Int:=((Nat.gcd (Nat.gcd a.natAbs b.natAbs) c.natAbs:Nat):Int)
theorem I8(A B C:Int)(w:World)(hA:-1073741824≤A∧A≤1073741824)(hB:-1073741824≤B∧B≤1073741824)(hC:1≤C∧C≤1073741824) :
  Calls Tryz.prog 61 #[.agg #[int i64 A,int i64 B,int i64 C]] w λe w'=>e=.returned (.agg #[int i64 (A.tdiv (D9 A B C)),int i64 (B.tdiv (D9 A B C)),int i64 (C / D9 A B C)])∧Below w.heap.size w w':=by
 have hJ:1≤D9 A B C:=by
  unfold D9;have:0<Nat.gcd (Nat.gcd A.natAbs B.natAbs) C.natAbs:=Nat.gcd_pos_of_pos_right _ (by omega);omega
 have hD:=λ(g:Nat) (w:World) hg=>LE g A B C w hA hB ⟨by omega,hC.2⟩ hg
 have HC:=qh hD;clear hD;obtain ⟨g0,g1,g2,hz,b0⟩:=QK w (.cells #[int i64 A,int i64 B,int i64 C] 34) (.cells #[int i64 0,int i64 0,int i64 0] 34) (.cells #[int i64 A,int i64 B,int i64 C] 3);go_enter Tryz.func61,Tryz.ntmps61;go_wp2_with fail;generalize (((w.alloc (.cells #[int i64 A,int i64 B,int i64 C] 34)).alloc (.cells #[int i64 0,int i64 0,int i64 0] 34)).alloc (.cells #[int i64 A,int i64 B,int i64 C] 3))=w0 at *;refine (HC.out (w.heap.size+1+1) w0 g2).mono ?_;rintro e w1 ⟨rfl,k,rfl⟩;have hE:((Nat.gcd (Nat.gcd A.natAbs B.natAbs) C.natAbs:Nat):Int)=D9 A B C:=rfl;rw [hE];have hG:=qh (Aj b0 k);have k0:(w0.drewN k).heap[w.heap.size]?=some (.cells #[int i64 A,int i64 B,int i64 C] 34 (0,0)):=g0;have k1:(w0.drewN k).heap[w.heap.size+1]?=some (.cells #[int i64 0,int i64 0,int i64 0] 34 (0,0)):=g1;have hK:w.heap.size+1<(w0.drewN k).heap.size:=by show w.heap.size+1<w0.heap.size;omega
 clear g0 g1 g2 hz b0 hE;generalize w0.drewN k=w2 at *;have c0:=Aa k0 0 rfl;have c1:=Aa k0 1 rfl;have c2:=Aa k0 2 rfl;have d0:=Aa k1 0 rfl;have d1:=Aa k1 1 rfl;have d2:=Aa k1 2 rfl;have q0:=JF k1 0;have q1:=JF k1 1;have q2:=JF k1 2;generalize hF:D9 A B C=G at *;have hH:=qh hF;clear hF;have hL:¬G=0:=by omega
 have K1:=qh k1;clear k0 k1;go_wp2_with fail;go_region
 all_goals
  go_wp2;have hI:=qh ((((hG.out.setCell (p:=⟨w.heap.size+1,0,none⟩) (by show w.heap.size≤w.heap.size+1;omega) (int i64 (A.tdiv G))).setCell (p:=⟨w.heap.size+1,1,none⟩) (by show w.heap.size≤w.heap.size+1;omega) (int i64 (B.tdiv G))).setCell (p:=⟨w.heap.size+1,2,none⟩) (by show w.heap.size≤w.heap.size+1;omega) (int i64 (C / G))).drew);refine bodyPost_ret (v:=.agg #[int i64 (A.tdiv G),int i64 (B.tdiv G),int i64 (C / G)]) ?_ rfl ⟨by rw [hH.out],hI.out⟩;simp [results,Tryz.results61,go_sem,d0,d1,d2]
theorem QU(a b c d e f:Int)(w:World):(binOp .neq 34 (.agg #[int i64 a,int i64 b,int i64 c]) (.agg #[int i64 d,int i64 e,int i64 f])).run Tryz.prog w=.ok (.bool (!(a==d&&b==e&&c==f))) w:=by
 have u3:=Tryz.underlying3;have a3:=Tryz.isAgg3;have z3:=Tryz.sizeOf3;have hS:Tryz.prog.underlying 34=some (.struct (Tryz.prog.fieldsOf 34)):=by kernel_rfl
 have hp:Tryz.prog.stoodInHeld 34=false:=by kernel_rfl
 rw [run_neq_struct,show (10000:Nat)=9999+1 from rfl,run_equalIn_agg w 9999 34 _ _ hS hp];simp only [Program.fieldsOf,Tryz.underlying34];go_simp;by_cases h1:a=d<;>by_cases h2:b=e<;>by_cases h3:c=f<;>simp [h1,h2,h3]
theorem Vb{a b c:Int}(h:c<1∨32768<c):EC a b c=false:=by unfold EC;rw [BZ.2 h];rfl
theorem Jm{a b c:Int}(h:a < -c∨c<a∨b < -c∨c<b):EC a b c=false:=by
 unfold EC;rcases h with h|h|h|h
 ·rw [BZ.2 (show a < -c∨_ from Or.inl h)];simp
 ·rw [BZ.2 (show _∨c<a from Or.inr h)];simp
 ·rw [BZ.2 (show b < -c∨_ from Or.inl h)];simp
 ·rw [BZ.2 (show _∨c<b from Or.inr h)];simp
theorem Mr{a b c:Int}(h:¬a*a+b*b=c*c):EC a b c=false:=by unfold EC;rw [decide_eq_false h];simp
theorem Sl(A B C:Int)(h:C<1∨32768<C)(w:World):Calls Tryz.prog 50 #[.agg #[int i64 A,int i64 B,int i64 C]] w λe w'=>e=.returned (int i64 140)∧Below w.heap.size w w':=by
 by_cases h1:C<1
 ·clear h
  go_enter Tryz.func50,Tryz.ntmps50;go_wp2_with fail;go_quiet (fail);go_wp2;go_ret;exact ⟨rfl,Aj ((Below.refl _ _).alloc (qn _) _) _⟩
 ·have f1:decide (C<1)=false:=by simpa using h1
  have h2:32768<C:=by omega
  clear h h1;go_enter Tryz.func50,Tryz.ntmps50;go_wp2_with fail;go_quiet (fail);go_wp2;go_ret;exact ⟨rfl,Aj ((Below.refl _ _).alloc (qn _) _) _⟩
theorem CA{a:Int}(h1:-32768≤a)(h2:a≤32768):0≤a*a∧a*a≤1073741824:=by
 have hx:(a*a).natAbs≤1073741824:=by
  rw [Int.natAbs_mul]
  calc a.natAbs*a.natAbs≤32768*32768:=Nat.mul_le_mul (by omega) (by omega)
   _=1073741824:=by decide
 have h0:0≤a*a:=by
  rcases Int.le_total 0 a with h|h
  ·exact Int.mul_nonneg h h
  ·exact Int.mul_nonneg_of_nonpos_of_nonpos h h
 omega
theorem Pf{a b c:Int}(hc:1≤c):((a.tdiv (D9 a b c)==a&&b.tdiv (D9 a b c)==b&&c / D9 a b c==c))=decide (Nat.gcd (Nat.gcd a.natAbs b.natAbs) c.natAbs=1):=by
 by_cases h:Nat.gcd (Nat.gcd a.natAbs b.natAbs) c.natAbs=1
 ·have:D9 a b c=1:=by unfold D9;omega
  rw [this,decide_eq_true h];simp
 ·rw [decide_eq_false h]
  have hp:0<Nat.gcd (Nat.gcd a.natAbs b.natAbs) c.natAbs:=Nat.gcd_pos_of_pos_right _ (by omega);have h2:2≤D9 a b c:=by unfold D9;omega
  have:¬c / D9 a b c=c:=by
   intro e;have h3:D9 a b c*(c / D9 a b c)≤c:=Int.mul_ediv_self_le (by omega);rw [e] at h3;have:2*c≤D9 a b c*c:=Int.mul_le_mul_of_nonneg_right h2 (by omega);omega
  simp [this]
theorem Kb{a b c:Int}(h1:1≤c)(h2:c≤32768)(h3:-c≤a)(h4:a≤c)(h5:-c≤b)(h6:b≤c)(h7:a*a+b*b=c*c):EC a b c=decide (Nat.gcd (Nat.gcd a.natAbs b.natAbs) c.natAbs=1):=by
 unfold EC;rw [AL.2 ⟨h1,h2⟩,AL.2 ⟨h3,h4⟩,AL.2 ⟨h5,h6⟩,decide_eq_true h7];rfl
theorem Lf(A B C:Int)(hA:1≤C)(hB:C≤32768)(ho:A<B)(h:A < -C)(w:World):Calls Tryz.prog 50 #[.agg #[int i64 A,int i64 B,int i64 C]] w λe w'=>e=.returned (int i64 140)∧Below w.heap.size w w':=by
 have f1:decide (C<1)=false:=by simpa using by omega
 have f2:decide (32768<C)=false:=by simpa using by omega
 have m1:min A B=A:=by omega
 have m2:max A B=B:=by omega
 have m3:IntKind.i64.wrap (-C)=-C:=IntWalk.i64_in _ (by omega);go_enter Tryz.func50,Tryz.ntmps50;go_wp2_with fail;go_quiet (fail);go_wp2;go_ret;exact ⟨rfl,Aj ((Below.refl _ _).alloc (qn _) _) _⟩
theorem Lc(A B C:Int)(hA:1≤C)(hB:C≤32768)(ho:A<B)(h0:¬A < -C)(h:C<B)(w:World):Calls Tryz.prog 50 #[.agg #[int i64 A,int i64 B,int i64 C]] w λe w'=>e=.returned (int i64 140)∧Below w.heap.size w w':=by
 have f1:decide (C<1)=false:=by simpa using by omega
 have f2:decide (32768<C)=false:=by simpa using by omega
 have m1:min A B=A:=by omega
 have m2:max A B=B:=by omega
 have m3:IntKind.i64.wrap (-C)=-C:=IntWalk.i64_in _ (by omega);have f3:decide (A < -C)=false:=by simpa using h0
 go_enter Tryz.func50,Tryz.ntmps50;go_wp2_with fail;go_quiet (fail);go_wp2;go_ret;exact ⟨rfl,Aj ((Below.refl _ _).alloc (qn _) _) _⟩
theorem Li(A B C:Int)(hA:1≤C)(hB:C≤32768)(ho:A<B)(h0:¬A < -C)(h1:¬C<B)(h:¬A*A+B*B=C*C)(w:World):Calls Tryz.prog 50 #[.agg #[int i64 A,int i64 B,int i64 C]] w λe w'=>e=.returned (int i64 140)∧Below w.heap.size w w':=by
 have pa:=CA (a:=A) (by omega) (by omega);have pb:=CA (a:=B) (by omega) (by omega);have pc:=CA (a:=C) (by omega) (by omega);have f1:decide (C<1)=false:=by simpa using by omega
 have f2:decide (32768<C)=false:=by simpa using by omega
 have m1:min A B=A:=by omega
 have m2:max A B=B:=by omega
 have m3:IntKind.i64.wrap (-C)=-C:=IntWalk.i64_in _ (by omega);have f3:decide (A < -C)=false:=by simpa using h0
 have f4:decide (C<B)=false:=by simpa using h1
 have hC:IntKind.i64.wrap (A*A)=A*A:=IntWalk.i64_in _ (by omega);have hD:IntKind.i64.wrap (B*B)=B*B:=IntWalk.i64_in _ (by omega);have hE:IntKind.i64.wrap (C*C)=C*C:=IntWalk.i64_in _ (by omega);have hF:IntKind.i64.wrap (A*A+B*B)=A*A+B*B:=IntWalk.i64_in _ (by omega);have f5:(A*A+B*B != C*C)=true:=by simpa using h
 clear h h0 h1 pa pb pc;go_enter Tryz.func50,Tryz.ntmps50;go_wp2_with fail;go_quiet (fail);go_wp2;go_ret;exact ⟨rfl,Aj ((Below.refl _ _).alloc (qn _) _) _⟩
theorem Ld(A B C:Int)(hA:1≤C)(hB:C≤32768)(ho:A=B)(h:A < -C)(w:World):Calls Tryz.prog 50 #[.agg #[int i64 A,int i64 B,int i64 C]] w λe w'=>e=.returned (int i64 140)∧Below w.heap.size w w':=by
 subst ho;have f1:decide (C<1)=false:=by simpa using by omega
 have f2:decide (32768<C)=false:=by simpa using by omega
 have m1:min A A=A:=by omega
 have m2:max A A=A:=by omega
 have m3:IntKind.i64.wrap (-C)=-C:=IntWalk.i64_in _ (by omega);go_enter Tryz.func50,Tryz.ntmps50;go_wp2_with fail;go_quiet (fail);go_wp2;go_ret;exact ⟨rfl,Aj ((Below.refl _ _).alloc (qn _) _) _⟩
theorem La(A B C:Int)(hA:1≤C)(hB:C≤32768)(ho:A=B)(h0:¬A < -C)(h:C<A)(w:World):Calls Tryz.prog 50 #[.agg #[int i64 A,int i64 B,int i64 C]] w λe w'=>e=.returned (int i64 140)∧Below w.heap.size w w':=by
 subst ho;have f1:decide (C<1)=false:=by simpa using by omega
 have f2:decide (32768<C)=false:=by simpa using by omega
 have m1:min A A=A:=by omega
 have m2:max A A=A:=by omega
 have m3:IntKind.i64.wrap (-C)=-C:=IntWalk.i64_in _ (by omega);have f3:decide (A < -C)=false:=by simpa using h0
 go_enter Tryz.func50,Tryz.ntmps50;go_wp2_with fail;go_quiet (fail);go_wp2;go_ret;exact ⟨rfl,Aj ((Below.refl _ _).alloc (qn _) _) _⟩
theorem Lg(A B C:Int)(hA:1≤C)(hB:C≤32768)(ho:A=B)(h0:¬A < -C)(h1:¬C<A)(h:¬A*A+B*B=C*C)(w:World):Calls Tryz.prog 50 #[.agg #[int i64 A,int i64 B,int i64 C]] w λe w'=>e=.returned (int i64 140)∧Below w.heap.size w w':=by
 have pa:=CA (a:=A) (by omega) (by omega);have pb:=CA (a:=B) (by omega) (by omega);have pc:=CA (a:=C) (by omega) (by omega);subst ho;have f1:decide (C<1)=false:=by simpa using by omega
 have f2:decide (32768<C)=false:=by simpa using by omega
 have m1:min A A=A:=by omega
 have m2:max A A=A:=by omega
 have m3:IntKind.i64.wrap (-C)=-C:=IntWalk.i64_in _ (by omega);have f3:decide (A < -C)=false:=by simpa using h0
 have f4:decide (C<A)=false:=by simpa using h1
 have hC:IntKind.i64.wrap (A*A)=A*A:=IntWalk.i64_in _ (by omega);have hD:IntKind.i64.wrap (A*A)=A*A:=IntWalk.i64_in _ (by omega);have hE:IntKind.i64.wrap (C*C)=C*C:=IntWalk.i64_in _ (by omega);have hF:IntKind.i64.wrap (A*A+A*A)=A*A+A*A:=IntWalk.i64_in _ (by omega);have f5:(A*A+A*A != C*C)=true:=by simpa using h
 clear h h0 h1 pa pb pc;go_enter Tryz.func50,Tryz.ntmps50;go_wp2_with fail;go_quiet (fail);go_wp2;go_ret;exact ⟨rfl,Aj ((Below.refl _ _).alloc (qn _) _) _⟩
theorem Le(A B C:Int)(hA:1≤C)(hB:C≤32768)(ho:B<A)(h:B < -C)(w:World):Calls Tryz.prog 50 #[.agg #[int i64 A,int i64 B,int i64 C]] w λe w'=>e=.returned (int i64 140)∧Below w.heap.size w w':=by
 have f1:decide (C<1)=false:=by simpa using by omega
 have f2:decide (32768<C)=false:=by simpa using by omega
 have m1:min A B=B:=by omega
 have m2:max A B=A:=by omega
 have m3:IntKind.i64.wrap (-C)=-C:=IntWalk.i64_in _ (by omega);go_enter Tryz.func50,Tryz.ntmps50;go_wp2_with fail;go_quiet (fail);go_wp2;go_ret;exact ⟨rfl,Aj ((Below.refl _ _).alloc (qn _) _) _⟩
theorem Lb(A B C:Int)(hA:1≤C)(hB:C≤32768)(ho:B<A)(h0:¬B < -C)(h:C<A)(w:World):Calls Tryz.prog 50 #[.agg #[int i64 A,int i64 B,int i64 C]] w λe w'=>e=.returned (int i64 140)∧Below w.heap.size w w':=by
 have f1:decide (C<1)=false:=by simpa using by omega
 have f2:decide (32768<C)=false:=by simpa using by omega
 have m1:min A B=B:=by omega
 have m2:max A B=A:=by omega
 have m3:IntKind.i64.wrap (-C)=-C:=IntWalk.i64_in _ (by omega);have f3:decide (B < -C)=false:=by simpa using h0
 go_enter Tryz.func50,Tryz.ntmps50;go_wp2_with fail;go_quiet (fail);go_wp2;go_ret;exact ⟨rfl,Aj ((Below.refl _ _).alloc (qn _) _) _⟩
theorem Lh(A B C:Int)(hA:1≤C)(hB:C≤32768)(ho:B<A)(h0:¬B < -C)(h1:¬C<A)(h:¬A*A+B*B=C*C)(w:World):Calls Tryz.prog 50 #[.agg #[int i64 A,int i64 B,int i64 C]] w λe w'=>e=.returned (int i64 140)∧Below w.heap.size w w':=by
 have pa:=CA (a:=A) (by omega) (by omega);have pb:=CA (a:=B) (by omega) (by omega);have pc:=CA (a:=C) (by omega) (by omega);have f1:decide (C<1)=false:=by simpa using by omega
 have f2:decide (32768<C)=false:=by simpa using by omega
 have m1:min A B=B:=by omega
 have m2:max A B=A:=by omega
 have m3:IntKind.i64.wrap (-C)=-C:=IntWalk.i64_in _ (by omega);have f3:decide (B < -C)=false:=by simpa using h0
 have f4:decide (C<A)=false:=by simpa using h1
 have hC:IntKind.i64.wrap (A*A)=A*A:=IntWalk.i64_in _ (by omega);have hD:IntKind.i64.wrap (B*B)=B*B:=IntWalk.i64_in _ (by omega);have hE:IntKind.i64.wrap (C*C)=C*C:=IntWalk.i64_in _ (by omega);have hF:IntKind.i64.wrap (A*A+B*B)=A*A+B*B:=IntWalk.i64_in _ (by omega);have f5:(A*A+B*B != C*C)=true:=by simpa using h
 clear h h0 h1 pa pb pc;go_enter Tryz.func50,Tryz.ntmps50;go_wp2_with fail;go_quiet (fail);go_wp2;go_ret;exact ⟨rfl,Aj ((Below.refl _ _).alloc (qn _) _) _⟩
end
end Go.Proofs.YtbkemlgfdklpfaaGreatDoor
