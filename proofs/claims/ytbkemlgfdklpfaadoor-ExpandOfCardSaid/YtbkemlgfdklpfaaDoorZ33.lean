/- Contracts and plain laws on the way to the statement: part 33. -/
import Derived.Test.YtbkemlgfdklpfaaDoorZ32
import Derived.BigRegion
import Derived.BigCall
import Derived.BigGuard
import Derived.Deep.RegionWith
import Derived.Deep.RegionHeld3
import Derived.Deep.QuietTactic
import Derived.BigQuiet
import Derived.KernelRfl
import Derived.StillTailTactics
import Derived.Laws.StructEq
import Derived.Test.YtbkemlgfdklpfaaDoorZ4
set_option autoImplicit true
set_option relaxedAutoImplicit true
set_option linter.unusedVariables false
set_option linter.unusedSimpArgs false
set_option maxRecDepth 100000
set_option maxHeartbeats 16000000
namespace Go.Proofs.YtbkemlgfdklpfaaDoor
open Go.Value (int)
open Go.IntKind (i64)
section
open Go Go.RowKit
noncomputable def bodyB:Code:=match KK with
  | .seq _ (.block _ (.loop (.seq _ (.seq _ (.seq (.block _ c) _)))))=>c
  | c=>c
noncomputable def MR:Code:=match Ab 2 bodyB with
  | .seq (.seq _ (.block _ (.loop (.seq _ (.seq (.block _ (.seq _ (.block _ (.loop (.seq _ (.seq _ (.seq (.block _ c) _))))))) _))))) _=>c
  | c=>c
noncomputable def Vu:Code:=match MR with
  | .seq a _=>a
  | c=>c
noncomputable def Vv:Code:=qe 1 MR
def FarM(W:World)(F:Nat)(g:Int→Option Int):Prop:=∃kvs:List (Int×Value),MapAt kI W F kvs∧Ay kvs∧∀x,Ap kvs x=(g x).map (Value.int .i64)
theorem FarM.of_block{W W':World}{F:Nat}{g:Int→Option Int}(h:FarM W F g)(hb:W'.heap[F]?=W.heap[F]?):FarM W' F g:=by
  obtain ⟨kvs,h1,h2⟩:=h;exact ⟨kvs,h1.of_block hb,h2⟩
theorem FarM.lt{W:World}{F:Nat}{g:Int→Option Int}(h:FarM W F g):F<W.heap.size:=by
  obtain ⟨kvs,h1,h2⟩:=h;exact h1.lt
theorem FarM.new(W:World):FarM (W.alloc (.map #[] 0)) W.heap.size (λ_=>none):=⟨[],MapAt.new W,List.nodup_nil,λ_=>rfl⟩
theorem FarM.grown{W W':World}{F x:Nat}{g:Int→Option Int}(h:FarM W F g)(hg:W.grownBy W' (some x))(hx:x≠F):FarM W' F g:=h.of_block (hg.block F h.lt (λe=>by cases e;exact hx rfl))
theorem FarM.lookup{W:World}{F:Nat}{g:Int→Option Int}(h:FarM W F g)(x:Int):(Instr.lookup 148 (.map (some F)) (int i64 x) true).run Tryd.prog W=.ok (.tuple #[int i64 ((g x).getD 0),.bool (g x).isSome]) W:=by
  obtain ⟨kvs,h1,_,h3⟩:=h;have:=Bt (P:=Tryd.prog) B5 Tryd.underlying148 Tryd.underlying3 h1 x (z:=int i64 0) (by kernel_rfl) true;rw [h3 x] at this;refine this.trans ?_;cases g x<;>rfl
theorem FarM.lookup1{W:World}{F:Nat}{g:Int→Option Int}(h:FarM W F g)(x:Int):(Instr.lookup 148 (.map (some F)) (int i64 x) false).run Tryd.prog W=.ok (int i64 ((g x).getD 0)) W:=by
  obtain ⟨kvs,h1,_,h3⟩:=h;have:=Bt (P:=Tryd.prog) B5 Tryd.underlying148 Tryd.underlying3 h1 x (z:=int i64 0) (by kernel_rfl) false;rw [h3 x] at this;refine this.trans ?_;cases g x<;>rfl
def GC(g:Int→Option Int)(k v:Int):Int→Option Int:=λx=>if x=k then some v else g x
theorem FarM.put{W:World}{F:Nat}{g:Int→Option Int}(h:FarM W F g)(k v:Int)(hk:g k=none) :
    ∃W',(Instr.mapUpdate 148 (.map (some F)) (int i64 k) (int i64 v)).run Tryd.prog W=.ok () W'∧FarM W' F (GC g k v)∧W.grownBy W' (some F)∧W'.heap.size=W.heap.size:=by
  obtain ⟨kvs,h1,h2,h3⟩:=h;obtain ⟨o,hA,hM⟩:=AA (P:=Tryd.prog) B5 Tryd.underlying148 Tryd.underlying3 h1 h2 k (int i64 v);have hn:Ap kvs k=none:=by rw [h3,hk];rfl
  refine ⟨_,hA,⟨_,hM,AI h2 k _,λx=>?_⟩,Ev W F o,by simp⟩;unfold GC;by_cases hx:x=k
  · subst hx
    rw [if_pos rfl,D7 hn];rfl
  · rw [if_neg hx, ← h3 x]
    cases hg:Ap kvs x with
    | none=>exact DA hg (λe=>hx e.symm) _
    | some y=>exact FU hg (λe=>hx e.symm) _
def Ee(i n:Int)(g:Int→Option Int)(to:Int):Bool:=(decide (n=1)&&decide (to=i))||(decide (1<n)&&decide (g to=some (n-1)))
def Dn(ks:List Int)(i n:Int)(g:Int→Option Int):Bool:=ks.any (Ee i n g)
theorem NextW.grown{w W W':World}{N G n x:Nat}{kss:List (List Int)}{ms:List Nat}(h:NextW w W N G n kss ms)(hg:W.grownBy W' (some x))(hN:x≠N)(hG:x≠G)(hm:x∉ms)(hx:w.heap.size≤x):NextW w W' N G n kss ms :=
  ⟨h.below.grown hg h.below.size (λk hk=>by cases hk;exact hx),h.lowN,h.lowG,(hg.block N (qs.1 h.box).1 (λe=>by cases e;exact hN rfl)).trans h.box,
   (hg.block G (qs.1 h.row).1 (λe=>by cases e;exact hG rfl)).trans h.row,h.len,h.low,
   λj m ks h1 h2=>(h.sets j m ks h1 h2).of_block (hg.block m (h.sets j m ks h1 h2).lt (λe=>by cases e;exact hm (List.mem_of_getElem? h1))),h.apart⟩
theorem NextW.lts{w W:World}{N G n:Nat}{kss:List (List Int)}{ms:List Nat}(h:NextW w W N G n kss ms)(hk:kss.length=n){m:Nat}(hm:m∈ms):m<W.heap.size:=by
  obtain ⟨j,hj⟩:=List.getElem?_of_mem hm;have hB:=(ql.1 hj).1;obtain ⟨ks,hA⟩:∃ks,kss[j]?=some ks:=⟨_,qg (by have:=h.len;omega)⟩;exact (h.sets j m ks hj hA).lt
structure FarW(w W:World)(N G n F:Nat)(kss:List (List Int))(ms:List Nat)(g:Int→Option Int):Prop where
  next:NextW w W N G n kss ms
  whole:ms.length=n
  klen:kss.length=n
  far:FarM W F g
  lowF:w.heap.size≤F
  offF:F∉ms
  neN:F≠N
  neG:F≠G
theorem FarW.grown{w W W':World}{N G n F x:Nat}{kss:List (List Int)}{ms:List Nat}{g:Int→Option Int}(h:FarW w W N G n F kss ms g)(hg:W.grownBy W' (some x))(hx:W.heap.size≤x∨(w.heap.size≤x∧x≠N∧x≠G∧x∉ms∧x≠F)):FarW w W' N G n F kss ms g:=by
  have hl:=h.next.below.size
  have hN:=(qs.1 h.next.box).1;have hG:=(qs.1 h.next.row).1;have hF:=h.far.lt
  have hA:w.heap.size≤x∧x≠N∧x≠G∧x∉ms∧x≠F:=by
    rcases hx with hx|hx
    · exact ⟨by omega,by omega,by omega,λhm=>by have:=h.next.lts h.klen hm;omega,by omega⟩
    · exact hx
  obtain ⟨a1,a2,a3,a4,a5⟩:=hA;exact ⟨h.next.grown hg a2 a3 a4 a1,h.whole,h.klen,h.far.grown hg a5,h.lowF,h.offF,h.neN,h.neG⟩
theorem FarW.below{w W W':World}{N G n F:Nat}{kss:List (List Int)}{ms:List Nat}{g:Int→Option Int}(h:FarW w W N G n F kss ms g)(hb:Below W.heap.size W W'):FarW w W' N G n F kss ms g :=
  ⟨h.next.keep hb,h.whole,h.klen,h.far.of_block (hb.block F h.far.lt),h.lowF,h.offF,h.neN,h.neG⟩
theorem FarW.put{w W W':World}{N G n F:Nat}{kss:List (List Int)}{ms:List Nat}{g g':Int→Option Int}(h:FarW w W N G n F kss ms g)(hg:W.grownBy W' (some F))(hf:FarM W' F g'):FarW w W' N G n F kss ms g' :=
  ⟨h.next.grown hg h.neN h.neG h.offF h.lowF,h.whole,h.klen,hf,h.lowF,h.offF,h.neN,h.neG⟩
theorem TW(i nn:Int)(k N G n F:Nat)(kss:List (List Int))(ms:List Nat)(ks:List Int)(g:Int→Option Int)(w W:World)(hW:FarW w W N G n F kss ms g)(hk:k<n)(hY:kss[k]?=some ks)(hZ:g k=none)(hy:1≤nn∧nn≤1000)(Q:Exit→Act→World→Prop)
    (hQ:∀(bP bQ bR bS bT bU bV bW bY bZ ca cb cc cd ce cf cg ch ci cj ck cm cn co cp cq cr cs ct cu cv cw cx cy cz cA cB cC cD cE cF:Value) (V:World),FarW w V N G n F kss ms (if Dn ks i nn g=true then GC g k nn else g)→Q .normal { tmps:=#[e0,e1,e2,.pointer (some ⟨N,0,none⟩),e4,e5,int i64 i,.map (some F),int i64 nn,int i64 k,ea,eb,bP,bQ,bR,ef,eg,eh,ei,ej,ek,el,em,en,eo,ep,eq,er,es,et,eu,ev,ew,ex,ey,ez,eA,eB,eC,eD,eE,eF,eG,eH,eI,eJ,eK,eL,eM,eN,eO,eP,eQ,eR,eS,eT,eU,eV,eW,eX,eY,eZ,aa,ab,ac,bS,bT,bU,bV,bW,bY,bZ,ca,cb,cc,cd,ce,cf,cg,ch,ci,cj,ck,cm,cn,co,cp,cq,cr,cs,ct,cu,cv,cw,cx,cy,cz,cA,cB,cC,cD,cE,cF,aS,aT,aU,aV,aW,aX,aY,aZ,ba,bb,bc,bd,be,bf,bg,bh,bi,bj,bk,bl,bm,bn,bo,bp,bq,br,bs,bt,bu,bv,bw,bx,bz,bA,bB,bC,bD,bE,bF,bG,bH,bI,bJ,bK,bL,bM,bN,bO],defers:=[] } V) :
    (Ab 2 MR).wp Tryd.prog Q { tmps:=#[e0,e1,e2,.pointer (some ⟨N,0,none⟩),e4,e5,int i64 i,.map (some F),int i64 nn,int i64 k,ea,eb,ec,ed,ee,ef,eg,eh,ei,ej,ek,el,em,en,eo,ep,eq,er,es,et,eu,ev,ew,ex,ey,ez,eA,eB,eC,eD,eE,eF,eG,eH,eI,eJ,eK,eL,eM,eN,eO,eP,eQ,eR,eS,eT,eU,eV,eW,eX,eY,eZ,aa,ab,ac,ae,af,ag,ah,ai,aj,ak,al,am,an,ao,ap,aq,ar,au,av,aw,ax,ay,az,aA,aB,aC,aD,aE,aF,aG,aH,aI,aJ,aK,aL,aM,aN,aO,aP,aQ,aR,aS,aT,aU,aV,aW,aX,aY,aZ,ba,bb,bc,bd,be,bf,bg,bh,bi,bj,bk,bl,bm,bn,bo,bp,bq,br,bs,bt,bu,bv,bw,bx,bz,bA,bB,bC,bD,bE,bF,bG,bH,bI,bJ,bK,bL,bM,bN,bO],defers:=[] } W:=by
  obtain ⟨m,hm⟩:∃m,ms[k]?=some m:=⟨_,qg (by have:=hW.whole;omega)⟩;have hS:=hW.next.sets k m ks hm hY
  have y3:=Aa hW.next.box 0 rfl
  have yG:=Aa hW.next.row k (DT ms hk)
  rw [hm] at yG;obtain ⟨V0,hz,hI0,ha,h0⟩:=hS.range (P:=Tryd.prog) (T:=145) Tryd.underlying145;have h3:=hS.lt;have hb:=hW.below ha;obtain ⟨R,hR⟩:∃R,W.heap.size=R:=⟨_,rfl⟩
  have hd:w.heap.size≤R∧R≠N∧R≠G∧R∉ms∧R≠F:=by
    have hl:=hW.next.below.size
    have hN:=(qs.1 hW.next.box).1;have hG:=(qs.1 hW.next.row).1;have hF:=hW.far.lt;exact ⟨by omega,by omega,by omega,λhm=>by have:=hW.next.lts hW.klen hm;omega,by omega⟩
  rw [hR] at hz hI0;have HQ:=qh hQ;have h4:=qh hb;have h5:=qh hI0;have h6:=qh hd;have h7:=qh hZ;have he:m≠R:=by omega
  have HA:=qh he;clear hQ hW hb hI0 hd hS hm hY h3 h0 ha hZ hR he;have HB:(k:Int)<(n:Int):=by omega
  conv=>arg 2;whnf
  go_wp2_with fail;go_loopw [12,13,14] (λ_ _ _ wr=>∃left,Hid (ItB wr R m ks left)∧Hid (∀x∈ks,x∈left∨Ee i nn g x=false)∧Hid (FarW w wr N G n F kss ms g)) (λ_ _ _ wr=>wr.rangeLeft m R)
  case atStart=>exact ⟨ks,h5,qh (λx hx=>Or.inl hx),h4⟩
  case round =>
    obtain ⟨left,hI,hD,hW⟩:=hrel;rcases hI.out.next (P:=Tryd.prog) with ⟨hl,h8⟩|⟨to,V,left',hf,⟨_,h8⟩,HC,hP,hg,hh,hJ,hi,hC⟩
    · have hA:Dn ks i nn g=false:=by
        unfold Dn;rw [← Bool.not_eq_true,List.any_eq_true];rintro ⟨x,hx,hj⟩;rcases hD.out x hx with h|h
        · rw [hl] at h;cases h
        · rw [h] at hj;cases hj
      have hE:=qh hA;clear hA hl;go_wp2_with fail;refine HQ.out _ _ _ _ _ _ _ _ _ _ _ _ _ _ _ _ _ _ _ _ _ _ _ _ _ _ _ _ _ _ _ _ _ _ _ _ _ _ _ _ _ _ ?_;rw [hE.out];exact hW.out
    · have hn : wr.grownBy V (some R) := ⟨(hC 0 (Nat.zero_le _)).os, (hC 0 (Nat.zero_le _)).tape, (hC 0 (Nat.zero_le _)).output, Nat.le_of_eq hi.symm, fun c _ hc => hJ c (fun e => hc (by rw [e]))⟩
      have hM:=hW.out.grown hn (Or.inr h6.out);have ho:=hM.far.lookup to;obtain ⟨V2,hT,hp,hq,h9⟩:=hM.far.put k nn h7.out;have hK:=qh hM;have hU:=qh hP;have hV:=qh hg;have hX:Hid (V.rangeLeft m R<wr.rangeLeft m R):=qh (by rw [hP.cnt,hI.out.cnt];exact hh);have hr:Hid (to∈ks):=qh (hI.out.sub to hf);obtain ⟨HD,HE⟩:=hy;have hs:=qh hp;have ht:=qh hq;clear hM hP hg hh hJ hi hC hn hp hq h9 hf hI;by_cases h1:nn=1
      · subst h1
        by_cases hu:to=i
        · subst hu
          have hL:Ee to 1 g to=true:=by unfold Ee;simp
          have hB:Dn ks to 1 g=true:=List.any_eq_true.2 ⟨to,hr.out,hL⟩;have HY:=qh hB;clear hB hL;go_wp2_with fail;refine HQ.out _ _ _ _ _ _ _ _ _ _ _ _ _ _ _ _ _ _ _ _ _ _ _ _ _ _ _ _ _ _ _ _ _ _ _ _ _ _ _ _ _ _ ?_;rw [if_pos HY.out];exact hK.out.put ht.out hs.out
        · have hA : Ee i 1 g to = false := by unfold Ee; rw [decide_eq_false hu]; simp
          have hE:=qh hA;clear hA hT;go_wp2_with fail;go_roundw
          case rel =>
            refine ⟨left',hU,qh (λx hx=>?_),hK⟩;rcases hD.out x hx with h|h
            · rcases hV.out x h with rfl | h
              · exact Or.inr hE.out
              · exact Or.inl h
            · exact Or.inr h
          case measure=>exact hX.out
      · have h2 : 1 < nn := by omega
        have hw:IntKind.i64.wrap (nn-1)=nn-1:=IntWalk.i64_in _ (by omega)
        cases hH:g to with
        | none =>
          rw [hH] at ho;have hO:=qh hH;clear hH;have hA:Ee i nn g to=false:=by unfold Ee;rw [hO.out,decide_eq_false h1];simp
          have hE:=qh hA;clear hA hT;go_wp2_with fail;go_roundw
          case rel =>
            refine ⟨left',hU,qh (λx hx=>?_),hK⟩;rcases hD.out x hx with h|h
            · rcases hV.out x h with rfl | h
              · exact Or.inr hE.out
              · exact Or.inl h
            · exact Or.inr h
          case measure=>exact hX.out
        | some v =>
          rw [hH] at ho;have hO:=qh hH;clear hH;by_cases hv:v=nn-1
          · subst hv
            have hL:Ee i nn g to=true:=by unfold Ee;rw [hO.out,decide_eq_false h1,decide_eq_true h2];simp
            have hB:Dn ks i nn g=true:=List.any_eq_true.2 ⟨to,hr.out,hL⟩;have HY:=qh hB;clear hB hL;go_wp2_with fail;refine HQ.out _ _ _ _ _ _ _ _ _ _ _ _ _ _ _ _ _ _ _ _ _ _ _ _ _ _ _ _ _ _ _ _ _ _ _ _ _ _ _ _ _ _ ?_;rw [if_pos HY.out];exact hK.out.put ht.out hs.out
          · have hA : Ee i nn g to = false := by unfold Ee; rw [hO.out, decide_eq_false h1, decide_eq_true h2]; simp only [Option.some.injEq, Bool.false_and, Bool.true_and, Bool.false_or]; exact decide_eq_false hv
            have hE:=qh hA;clear hA hT;go_wp2_with fail;go_roundw
            case rel =>
              refine ⟨left',hU,qh (λx hx=>?_),hK⟩;rcases hD.out x hx with h|h
              · rcases hV.out x h with rfl | h
                · exact Or.inr hE.out
                · exact Or.inl h
              · exact Or.inr h
            case measure=>exact hX.out
def EX(kss:List (List Int))(i nn:Int)(j:Nat)(g:Int→Option Int):Int→Option Int:=if (g j).isSome=true then g else if Dn (kss.getD j []) i nn g=true then GC g j nn else g
def EI(kss:List (List Int))(i nn:Int)(g:Int→Option Int):Nat→(Int→Option Int)
 | 0=>g
 | j+1=>EX kss i nn j (EI kss i nn g j)
def AY(kss:List (List Int))(i:Int):Nat→(Int→Option Int)
 | 0=>λ_=>none
 | m+1=>EI kss i (m+1:Nat) (AY kss i m) kss.length
noncomputable def body5:Code:=match Ab 2 bodyB with
 | .seq (.seq _ (.block _ (.loop (.seq _ (.seq (.block _ c) _))))) _=>c
 | c=>c
theorem TV(i nn:Int)(N G n F:Nat)(kss:List (List Int))(ms:List Nat)(g:Int→Option Int)(w W:World)(hW:FarW w W N G n F kss ms g)(hn:n≤1000)(hH:1≤nn∧nn≤1000)(Q:Exit→Act→World→Prop)
  (hQ:∀(x9 bP bQ bR bS bT bU bV bW bY bZ ca cb cc cd ce cf cg ch ci cj ck cm cn co cp cq cr cs ct cu cv cw cx cy cz cA cB cC cD cE cF cG cH cI cJ cK cL cM cN cO cP cQ cR cS cT cU:Value) (V:World),FarW w V N G n F kss ms (EI kss i nn g n)→Q .normal { tmps:=#[e0,e1,e2,.pointer (some ⟨N,0,none⟩),e4,e5,int i64 i,.map (some F),int i64 nn,x9,bP,bQ,bR,bS,bT,ef,eg,eh,ei,ej,ek,el,em,en,eo,ep,eq,er,es,et,eu,ev,ew,ex,ey,ez,eA,eB,eC,eD,eE,eF,eG,eH,eI,eJ,eK,eL,eM,eN,eO,eP,eQ,bU,bV,bW,bY,bZ,ca,cb,cc,cd,ce,cf,cg,ch,ci,cj,ck,cm,cn,co,cp,cq,cr,cs,ct,cu,cv,cw,cx,cy,cz,cA,cB,cC,cD,cE,cF,cG,cH,cI,cJ,cK,cL,cM,cN,cO,cP,cQ,cR,cS,cT,cU,aT,aU,aV,aW,aX,aY,aZ,ba,bb,bc,bd,be,bf,bg,bh,bi,bj,bk,bl,bm,bn,bo,bp,bq,br,bs,bt,bu,bv,bw,bx,bz,bA,bB,bC,bD,bE,bF,bG,bH,bI,bJ,bK,bL,bM,bN,bO],defers:=[] } V) :
  body5.wp Tryd.prog Q { tmps:=#[e0,e1,e2,.pointer (some ⟨N,0,none⟩),e4,e5,int i64 i,.map (some F),int i64 nn,e9,ea,eb,ec,ed,ee,ef,eg,eh,ei,ej,ek,el,em,en,eo,ep,eq,er,es,et,eu,ev,ew,ex,ey,ez,eA,eB,eC,eD,eE,eF,eG,eH,eI,eJ,eK,eL,eM,eN,eO,eP,eQ,eR,eS,eT,eU,eV,eW,eX,eY,eZ,aa,ab,ac,ae,af,ag,ah,ai,aj,ak,al,am,an,ao,ap,aq,ar,au,av,aw,ax,ay,az,aA,aB,aC,aD,aE,aF,aG,aH,aI,aJ,aK,aL,aM,aN,aO,aP,aQ,aR,aS,aT,aU,aV,aW,aX,aY,aZ,ba,bb,bc,bd,be,bf,bg,bh,bi,bj,bk,bl,bm,bn,bo,bp,bq,br,bs,bt,bu,bv,bw,bx,bz,bA,bB,bC,bD,bE,bF,bG,bH,bI,bJ,bK,bL,bM,bN,bO],defers:=[] } W:=by
 have y3:=Aa hW.next.box 0 rfl
 have HQ:=qh hQ;have hP:=qh hW;have hR:=qh hH;clear hQ hW hH
 conv=>arg 2;whnf
 go_wp2_with fail;go_loopw [55] (λiv wr=>∃j:Nat,iv=int i64 j∧j≤n∧Hid (FarW w wr N G n F kss ms (EI kss i nn g j))) (λiv _=>n+1-(intOf iv).toNat)
 case atStart=>exact ⟨0,rfl,Nat.zero_le _,hP⟩
 case round =>
  obtain ⟨j,rfl,hX,hW⟩:=hrel;by_cases hS:j<n
  ·have hj:(j:Int)<(n:Int):=by omega
   obtain ⟨ks,hC⟩:∃ks,kss[j]?=some ks:=⟨_,qg (by have:=hW.out.klen;omega)⟩;have hD:kss.getD j []=ks:=by rw [List.getD_eq_getElem?_getD,hC];rfl
   obtain ⟨g',hE⟩:∃g',EI kss i nn g j=g':=⟨_,rfl⟩;have hJ:EI kss i nn g (j+1)=EX kss i nn j g':=by rw [EI,hE]
   have HJ:=qh hJ;rw [hE] at hW;clear hJ hE;have hF:=hW.out.far.lookup j
   cases hA:g' j with
   | some v =>
    rw [hA] at hF;have hB:EX kss i nn j g'=g':=by unfold EX;rw [hA];rfl
    have hG:=qh hB;clear hB hA hD hC;go_wp2_with fail;go_roundw
    case rel=>exact ⟨j+1,by go_num,by omega,qh (by rw [HJ.out,hG.out];exact hW.out)⟩
    case measure=>simp [intOf];omega
   | none =>
    rw [hA] at hF;have hB:EX kss i nn j g'=if Dn ks i nn g'=true then GC g' j nn else g':=by unfold EX;rw [hA,hD];rfl
    have hG:=qh hB;have hT:=qh hC;have hU:=qh hA;clear hB hA hD hC;refine Ae (λK1 hK=>?_);have hI:=qh hK;clear hK;go_wp2_with fail;refine hI.out _ _ ?_;clear hI K1;refine Ae (λK2 hK=>?_);have hL:=qh hK;clear hK;go_wp2_with fail;refine hL.out _ _ ?_;clear hL K2;refine Ae (λK3 hK=>?_);have hM:=qh hK;clear hK;refine wp_block ?_;change Code.wp Tryd.prog (.seq Vu (.seq Vv (Ab 2 MR))) _ _ _;refine Ae (λK4 hK=>?_);have hN:=qh hK;clear hK
    conv=>arg 2;whnf
    go_wp2_with fail;refine hN.out _ _ ?_;clear hN K4;refine Ae (λK5 hK=>?_);have hO:=qh hK;clear hK
    conv=>arg 2;whnf
    go_wp2_with fail;refine hO.out _ _ ?_;clear hO K5;refine TW i nn j N G n F kss ms ks g' w wr hW.out hS hT.out hU.out hR.out _ ?_
    intros
    rename_i V hV;refine hM.out _ _ ?_;rw [← hG.out,← HJ.out] at hV;have HV:=qh hV;clear hV hM K3 hF;go_wp2_with fail;go_roundw
    case rel=>exact ⟨j+1,by go_num,by omega,HV⟩
    case measure=>simp [intOf];omega
  ·have:j=n:=by omega
   subst this;have hz:¬(j:Int)<(j:Int):=by omega
   go_wp2_with fail;exact HQ.out _ _ _ _ _ _ _ _ _ _ _ _ _ _ _ _ _ _ _ _ _ _ _ _ _ _ _ _ _ _ _ _ _ _ _ _ _ _ _ _ _ _ _ _ _ _ _ _ _ _ _ _ _ _ _ _ _ wr hW.out
noncomputable def bBn(k:Nat):Code:=match Ab k bodyB with
 | .seq a _=>a
 | c=>c
theorem QO:bodyB=.seq (bBn 0) (Ab 1 bodyB):=rfl
theorem QP:Ab 1 bodyB=.seq (bBn 1) (Ab 2 bodyB):=rfl
theorem QQ:Ab 2 bodyB=.seq (bBn 2) (Ab 3 bodyB):=rfl
theorem TU(i:Int)(N G n F:Nat)(kss:List (List Int))(ms:List Nat)(w W:World)(hW:FarW w W N G n F kss ms (λ_=>none))(hn:n≤1000)(Q:Exit→Act→World→Prop)
  (hQ:∀(x8 x9 bP bQ bR bS bT bU bV bW bY bZ ca cb cc cd ce cf cg ch ci cj ck cm cn co cp cq cr cs ct cu cv cw cx cy cz cA cB cC cD cE cF cG cH cI cJ cK cL cM cN cO cP cQ cR cS cT cU cV cW cX cY cZ da:Value) (V:World),FarW w V N G n F kss ms (AY kss i n)→Q .normal { tmps:=#[e0,e1,e2,.pointer (some ⟨N,0,none⟩),e4,e5,int i64 i,.map (some F),x8,x9,bP,bQ,bR,bS,bT,ef,eg,eh,ei,ej,ek,el,em,en,eo,ep,eq,er,es,et,eu,ev,ew,ex,ey,ez,eA,eB,eC,eD,eE,eF,eG,eH,eI,eJ,eK,bU,bV,bW,bY,bZ,ca,cb,cc,cd,ce,cf,cg,ch,ci,cj,ck,cm,cn,co,cp,cq,cr,cs,ct,cu,cv,cw,cx,cy,cz,cA,cB,cC,cD,cE,cF,cG,cH,cI,cJ,cK,cL,cM,cN,cO,cP,cQ,cR,cS,cT,cU,cV,cW,cX,cY,cZ,da,aT,aU,aV,aW,aX,aY,aZ,ba,bb,bc,bd,be,bf,bg,bh,bi,bj,bk,bl,bm,bn,bo,bp,bq,br,bs,bt,bu,bv,bw,bx,bz,bA,bB,bC,bD,bE,bF,bG,bH,bI,bJ,bK,bL,bM,bN,bO],defers:=[] } V) :
  (bBn 2).wp Tryd.prog Q { tmps:=#[e0,e1,e2,.pointer (some ⟨N,0,none⟩),e4,e5,int i64 i,.map (some F),e8,e9,ea,eb,ec,ed,ee,ef,eg,eh,ei,ej,ek,el,em,en,eo,ep,eq,er,es,et,eu,ev,ew,ex,ey,ez,eA,eB,eC,eD,eE,eF,eG,eH,eI,eJ,eK,eL,eM,eN,eO,eP,eQ,eR,eS,eT,eU,eV,eW,eX,eY,eZ,aa,ab,ac,ae,af,ag,ah,ai,aj,ak,al,am,an,ao,ap,aq,ar,au,av,aw,ax,ay,az,aA,aB,aC,aD,aE,aF,aG,aH,aI,aJ,aK,aL,aM,aN,aO,aP,aQ,aR,aS,aT,aU,aV,aW,aX,aY,aZ,ba,bb,bc,bd,be,bf,bg,bh,bi,bj,bk,bl,bm,bn,bo,bp,bq,br,bs,bt,bu,bv,bw,bx,bz,bA,bB,bC,bD,bE,bF,bG,bH,bI,bJ,bK,bL,bM,bN,bO],defers:=[] } W:=by
 have HQ:=qh hQ;have hE:=qh hW;clear hQ hW
 conv=>arg 2;whnf
 go_wp2_with fail;go_loopw [8] (λiv wr=>∃j:Nat,iv=int i64 (j+1:Nat)∧j≤n∧Hid (FarW w wr N G n F kss ms (AY kss i j))) (λiv _=>n+3-(intOf iv).toNat)
 case atStart=>exact ⟨0,rfl,Nat.zero_le _,hE⟩
 case round =>
  obtain ⟨j,rfl,hG,hW⟩:=hrel;have y3:=Aa hW.out.next.box 0 rfl
  by_cases hH:j<n
  ·have hj:((j+1:Nat):Int)≤(n:Int):=by omega
   have hJ:AY kss i (j+1)=EI kss i (j+1:Nat) (AY kss i j) n:=by rw [AY,hW.out.klen]
   have HJ:=qh hJ;clear hJ;obtain ⟨nn,hA⟩:∃nn:Int,((j+1:Nat):Int)=nn:=⟨_,rfl⟩;have hB:=qh hA;have h1:1≤nn:=by omega
   have h2:nn≤1000:=by omega
   rw [hA] at hj;rw [hA];clear hA;refine Ae (λK1 hK=>?_);have hC:=qh hK;clear hK;go_wp2_with fail;refine hC.out _ _ ?_;clear hC K1;refine Ae (λK3 hK=>?_);have hD:=qh hK;clear hK;refine wp_block ?_;change Code.wp Tryd.prog body5 _ _ _;refine TV i nn N G n F kss ms (AY kss i j) w wr hW.out hn ⟨h1,h2⟩ _ ?_
   intros
   rename_i V hV;refine hD.out _ _ ?_;rw [← hB.out,← HJ.out] at hV;have HV:=qh hV;clear hV hD K3;have hF:=hB.out;subst hF;go_wp2_with fail;go_roundw
   case rel=>exact ⟨j+1,by go_num,by omega,HV⟩
   case measure=>simp [intOf];omega
  ·have:j=n:=by omega
   subst this;have hz:¬((j+1:Nat):Int)≤(j:Int):=by omega
   go_wp2_with fail;exact HQ.out _ _ _ _ _ _ _ _ _ _ _ _ _ _ _ _ _ _ _ _ _ _ _ _ _ _ _ _ _ _ _ _ _ _ _ _ _ _ _ _ _ _ _ _ _ _ _ _ _ _ _ _ _ _ _ _ _ _ _ _ _ _ _ _ wr hW.out
def onB(kss:List (List Int))(g:Int→Option Int)(at_ left:Int)(k:Nat):Bool:=decide ((k:Int)∈kss.getD at_.toNat [])&&decide ((g k).getD 0=left)
def DS(kss:List (List Int))(g:Int→Option Int)(at_ left:Int)(n:Nat):Option Nat:=(List.range n).find? (onB kss g at_ left)
def Ed(kss:List (List Int))(g:Int→Option Int)(n:Nat):Nat→Int→List Int
 | 0,_=>[]
 | left+1,at_=>match DS kss g at_ (left+1:Nat) n with
  | some k=>(k:Int)::Ed kss g n left k
  | none=>Ed kss g n left at_
theorem Oa{kss:List (List Int)}{g:Int→Option Int}{at_ left:Int}{n:Nat}(h:∀k,k<n→onB kss g at_ left k=false):DS kss g at_ left n=none:=by
 unfold DS;rw [List.find?_eq_none];intro k hk;rw [h k (by simpa using hk)];simp
theorem Ob{kss:List (List Int)}{g:Int→Option Int}{at_ left:Int}{n k:Nat}(hk:k<n)(h:∀j,j<k→onB kss g at_ left j=false)(hy:onB kss g at_ left k=true):DS kss g at_ left n=some k:=by
 unfold DS;rw [List.find?_range_eq_some];exact ⟨hy,by simpa using hk,λj hj=>by simpa using h j hj⟩
theorem SetB.lookup{w:World}{b:Nat}{ks:List Int}(h:SetB w b ks)(x:Int):(Instr.lookup 145 (.map (some b)) (int i64 x) false).run Tryd.prog w=.ok (.bool (decide (x∈ks))) w:=by
 have:=Bt (P:=Tryd.prog) B5 Tryd.underlying145 Tryd.underlying3 h.map_ x (z:=.bool false) (by kernel_rfl) false;rw [MD] at this;refine this.trans ?_;by_cases hx:x∈ks
 ·simp [hx]
 ·simp [hx]
theorem Tu:(Tryd.prog.info? 3).map (λi=>(i.zero,i.size,i.bytes))=some (some (int i64 0),1,8):=by kernel_rfl
def Jf(l:List Int):List Value:=l.map (Value.int .i64)
theorem RI{w:World}{base e s n g:Nat}{v:Value}{xs:List Value}(h:w.ownsRow base e s v n xs)(hg:v.ownBlock=some g):base≤g:=by
 rcases h.2 with ⟨rfl,_⟩|⟨g',cap,cur,rfl,h1,_⟩
 ·cases hg
 ·cases hg;exact h1
theorem Ue{A B C:World}{n:Nat}(h:Below n A B)(k:Below n B C):Below n A C:=h.trans k
structure WayW(w S W:World)(N G n F:Nat)(kss:List (List Int))(ms:List Nat)(g:Int→Option Int)(v:Value)(l:List Int):Prop where
 far:FarW w S N G n F kss ms g
 below:Below S.heap.size S W
 own:W.ownsRow S.heap.size 3 1 v l.length (Jf l)
 range:∀x∈l,0≤x∧x<n
theorem IU(w:World)(v:Value)(t:TypeId):∀j u,[v][j]?=some u→(w.alloc (.cells #[v] t)).cell? ((⟨w.heap.size,0,none⟩:Addr).add j)=some u:=by
 intro j u hj
 cases j with
 | zero=>simp at hj;subst hj;simp [Addr.add]
 | succ j=>simp at hj
noncomputable def LO:Code:=match bBn 6 with
 | .seq _ (.block _ (.loop (.seq _ (.seq (.block _ c) _))))=>c
 | c=>c
noncomputable def Uq:Code:=match LO with
 | .seq a _=>a
 | c=>c
theorem Vd(i left at_:Int)(N G n F:Nat)(kss:List (List Int))(ms:List Nat)(g:Int→Option Int)(v:Value)(l:List Int)(w S W:World)(hW:WayW w S W N G n F kss ms g v l)(hn:n≤1000)(hl:l.length≤1000)(ha:0≤at_∧at_<n)(Q:Exit→Act→World→Prop)
  (hQ:∀(v':Value) (bM bN bO bP bQ bR bS bT bU bV bW bY bZ ca cb cc cd ce cf cg ch ci cj ck:Value) (V:World),WayW w S V N G n F kss ms g v' (l++((DS kss g at_ left n).toList.map λk:Nat=>(k:Int)))→Q .normal { tmps:=#[e0,e1,e2,.pointer (some ⟨N,0,none⟩),e4,e5,int i64 i,.map (some F),e8,e9,ea,eb,ec,ed,ee,int i64 left,ef,v',int i64 at_,bM,eh,ei,ej,ek,el,em,en,eo,ep,eq,er,es,et,eu,ev,ew,ex,ey,ez,eA,eB,eC,eD,eE,eF,eG,eH,eI,eJ,eK,eL,eM,eN,eO,eP,eQ,eR,eS,eT,eU,eV,eW,eX,eY,eZ,aa,ab,ac,ae,af,ag,ah,ai,aj,ak,al,am,an,ao,ap,aq,ar,au,av,aw,ax,ay,az,aA,aB,aC,aD,aE,aF,aG,aH,aI,aJ,aK,aL,aM,aN,aO,aP,aQ,aR,aS,aT,aU,aV,aW,aX,aY,aZ,ba,bb,bc,bd,be,bf,bg,bh,bi,bj,bk,bl,bN,bO,bP,bQ,bR,bS,bT,bU,bV,bW,bY,bZ,ca,cb,cc,cd,ce,cf,cg,ch,ci,cj,ck,bK,bL],defers:=[] } V) :
  (Ab 1 LO).wp Tryd.prog Q { tmps:=#[e0,e1,e2,.pointer (some ⟨N,0,none⟩),e4,e5,int i64 i,.map (some F),e8,e9,ea,eb,ec,ed,ee,int i64 left,ef,v,int i64 at_,eg,eh,ei,ej,ek,el,em,en,eo,ep,eq,er,es,et,eu,ev,ew,ex,ey,ez,eA,eB,eC,eD,eE,eF,eG,eH,eI,eJ,eK,eL,eM,eN,eO,eP,eQ,eR,eS,eT,eU,eV,eW,eX,eY,eZ,aa,ab,ac,ae,af,ag,ah,ai,aj,ak,al,am,an,ao,ap,aq,ar,au,av,aw,ax,ay,az,aA,aB,aC,aD,aE,aF,aG,aH,aI,aJ,aK,aL,aM,aN,aO,aP,aQ,aR,aS,aT,aU,aV,aW,aX,aY,aZ,ba,bb,bc,bd,be,bf,bg,bh,bi,bj,bk,bl,bm,bn,bo,bp,bq,br,bs,bt,bu,bv,bw,bx,bz,bA,bB,bC,bD,bE,bF,bG,bH,bI,bJ,bK,bL],defers:=[] } W:=by
 obtain ⟨a,rfl⟩:∃a:Nat,at_=a:=⟨at_.toNat,by omega⟩;have hN:a<n:=by omega
 have hF:=hW.far.below hW.below;obtain ⟨m,hm⟩:∃m,ms[a]?=some m:=⟨_,qg (by have:=hF.whole;omega)⟩;obtain ⟨ks,hG⟩:∃ks,kss[a]?=some ks:=⟨_,qg (by have:=hF.klen;omega)⟩;have hI:kss.getD (a:Int).toNat []=ks:=by rw [Int.toNat_natCast,List.getD_eq_getElem?_getD,hG];rfl
 have y3:=Aa hF.next.box 0 rfl
 have yG:=Aa hF.next.row a (DT ms hN)
 rw [hm] at yG;have hJ:=hF.next.sets a m ks hm hG
 have hK:=hF.far;have HQ:=qh hQ;have HW:=qh hW;have hO:=qh hJ.lookup;have hP:=qh hK.lookup1;have hL:=qh hI;clear hQ hW hF hm hG hI hJ hK ha;have hZ:(a:Int)<(n:Int):=by omega
 conv=>arg 2;whnf
 go_wp2_with fail;go_loopw [17,128] (λlv iv wr=>∃k:Nat,iv=int i64 k∧lv=v∧k≤n∧wr=W∧Hid (∀j,j<k→onB kss g a left j=false)) (λ_ iv _=>n+1-(intOf iv).toNat)
 case atStart=>exact ⟨0,rfl,rfl,Nat.zero_le _,rfl,qh (λj hj=>by omega)⟩
 case round =>
  obtain ⟨k,rfl,rfl,hc,rfl,hE⟩:=hrel;by_cases hR:k<n
  ·have hk:(k:Int)<(n:Int):=by omega
   have hM:=hO.out k;have hS:=hP.out k;by_cases hA:(k:Int)∈ks
   ·rw [decide_eq_true hA] at hM
    by_cases hv:(g k).getD 0=left
    ·rw [hv] at hS
     have hy:onB kss g a left k=true:=by unfold onB;rw [hL.out,decide_eq_true hA,decide_eq_true hv];rfl
     have hB:=Ob hR hE.out hy;have hH:=qh hB;obtain ⟨i3,hT,hU,hV,hX⟩:=info_parts Tu;have HO:=qh (HW.out.own.alloc (.cells #[int i64 (k:Int)] 3));have hY:=HW.out.below.size;clear hy hB hA hv
     go_wp2_with (at_builtin;go_loud (refine wpList_append_own _ rfl _ _ 117 rfl S.heap.size 3 i3 (int i64 0) 1 8 Tryd.underlying117 hT hU hV hX rfl (by decide) _ l.length (Jf l) rfl HO.out ⟨wr.heap.size,0,none⟩ 1 1 [int i64 (k:Int)] rfl rfl (IU _ _ _) (by intro u hu;simp at hu;subst hu;rfl) (by simp only [maxLen];omega) (by omega) (by simp;omega) ?_;intro v' w4 hC hD _));refine HQ.out v' _ _ _ _ _ _ _ _ _ _ _ _ _ _ _ _ _ _ _ _ _ _ _ _ w4 ?_;rw [hH.out];refine ⟨HW.out.far,Ue HW.out.below (((Below.refl S.heap.size wr).alloc hY _).grown hD (by simp;omega) (λb hb=>RI HW.out.own hb)),?_,λx hx=>?_⟩
     ·unfold Jf at hC ⊢
      simpa using hC
     ·rcases List.mem_append.1 hx with hx|hx
      ·exact HW.out.range x hx
      ·simp at hx;subst hx;omega
    ·have hy:onB kss g a left k=false:=by unfold onB;rw [decide_eq_false hv,Bool.and_false]
     have HY:=qh hy;clear hy hA;go_wp2_with fail;go_roundw
     case rel=>exact ⟨k+1,by go_num,by trivial,by omega,by trivial,qh (λj hj=>by rcases Nat.lt_or_ge j k with h|h;exact hE.out j h;rw [show j=k by omega];exact HY.out)⟩
     case measure=>simp [intOf];omega
   ·rw [decide_eq_false hA] at hM
    have hy:onB kss g a left k=false:=by unfold onB;rw [hL.out,decide_eq_false hA,Bool.false_and]
    have HY:=qh hy;clear hy hA;go_wp2_with fail;go_roundw
    case rel=>exact ⟨k+1,by go_num,by trivial,by omega,by trivial,qh (λj hj=>by rcases Nat.lt_or_ge j k with h|h;exact hE.out j h;rw [show j=k by omega];exact HY.out)⟩
    case measure=>simp [intOf];omega
  ·have:k=n:=by omega
   subst this;have hz:¬(k:Int)<(k:Int):=by omega
   have hB:DS kss g a left k=none:=Oa hE.out;have hH:=qh hB;clear hB;go_wp2_with fail;refine HQ.out _ _ _ _ _ _ _ _ _ _ _ _ _ _ _ _ _ _ _ _ _ _ _ _ _ wr ?_;rw [hH.out];simpa using HW.out
theorem L4{w:World}{B n:Nat}{v:Value}{xs:List Value}(h:w.ownsRow B 3 1 v n xs)(hn:n≠0):∃g cap,v=.slice (some ⟨g,0,none⟩) n cap∧∀(j:Nat) (u:Value),xs[j]?=some u→w.cell? ⟨g,j,none⟩=some u:=by
 have hc:=h;rcases h.2 with ⟨rfl,h0⟩|⟨g,cap,cur,rfl,_⟩
 ·exact absurd h0 hn
 ·refine ⟨g,cap,rfl,λj u hj=>?_⟩
  have:=hc.cells (g:=g) rfl j u hj;rw [Bn,Nat.zero_add] at this;exact this
theorem QG(kss:List (List Int))(g:Int→Option Int)(n left:Nat)(l:List Int)(x:Int)(hx:l.getLast?=some x)(tot:List Int)(h:l++Ed kss g n (left+1) x=tot) :
  ∃y,(l++((DS kss g x (left+1:Nat) n).toList.map λk:Nat=>(k:Int))).getLast?=some y∧(l++((DS kss g x (left+1:Nat) n).toList.map λk:Nat=>(k:Int)))++Ed kss g n left y=tot:=by
 unfold Ed at h
 cases hp:DS kss g x (left+1:Nat) n with
 | none =>
  rw [hp] at h;exact ⟨x,by simpa using hx,by simpa using h⟩
 | some k =>
  rw [hp] at h;exact ⟨k,by simp,by simpa using h⟩
theorem TX(i:Int)(d N G n F:Nat)(kss:List (List Int))(ms:List Nat)(g:Int→Option Int)(v:Value)(w S W:World)(hW:WayW w S W N G n F kss ms g v [i])(hn:n≤1000)(hd:d≤998)(Q:Exit→Act→World→Prop)
  (hQ:∀(v':Value) (bN bO bP bQ bR bS bT bU bV bW bY bZ ca cb cc cd ce cf cg ch ci cj ck cm cn co cp cq cr cs ct cu cv cw cx cy cz cA:Value) (V:World),WayW w S V N G n F kss ms g v' (i::Ed kss g n d i)→Q .normal { tmps:=#[e0,e1,e2,.pointer (some ⟨N,0,none⟩),e4,e5,int i64 i,.map (some F),e8,e9,ea,eb,ec,ed,ee,bN,ef,v',bO,bP,ei,ej,ek,el,em,en,eo,ep,eq,er,es,et,eu,ev,ew,ex,ey,ez,eA,eB,eC,eD,eE,eF,eG,eH,eI,eJ,eK,eL,eM,eN,eO,eP,eQ,eR,eS,eT,eU,eV,eW,eX,eY,eZ,aa,ab,ac,ae,af,ag,ah,ai,aj,ak,al,am,an,ao,ap,aq,ar,au,av,aw,ax,ay,az,aA,aB,aC,aD,aE,aF,aG,aH,aI,aJ,aK,aL,aM,aN,aO,aP,aQ,aR,aS,aT,aU,aV,aW,aX,aY,aZ,ba,bQ,bR,bS,bT,bU,bV,bW,bY,bZ,ca,cb,cc,cd,ce,cf,cg,ch,ci,cj,ck,cm,cn,co,cp,cq,cr,cs,ct,cu,cv,cw,cx,cy,cz,cA,bL,bM],defers:=[] } V) :
  (bBn 6).wp Tryd.prog Q { tmps:=#[e0,e1,e2,.pointer (some ⟨N,0,none⟩),e4,e5,int i64 i,.map (some F),e8,e9,ea,eb,ec,ed,ee,int i64 (d+1:Nat),ef,v,eg,eh,ei,ej,ek,el,em,en,eo,ep,eq,er,es,et,eu,ev,ew,ex,ey,ez,eA,eB,eC,eD,eE,eF,eG,eH,eI,eJ,eK,eL,eM,eN,eO,eP,eQ,eR,eS,eT,eU,eV,eW,eX,eY,eZ,aa,ab,ac,ae,af,ag,ah,ai,aj,ak,al,am,an,ao,ap,aq,ar,au,av,aw,ax,ay,az,aA,aB,aC,aD,aE,aF,aG,aH,aI,aJ,aK,aL,aM,aN,aO,aP,aQ,aR,aS,aT,aU,aV,aW,aX,aY,aZ,ba,bb,bc,bd,be,bf,bg,bh,bi,bj,bk,bl,bm,bn,bo,bp,bq,br,bs,bt,bu,bv,bw,bx,bz,bA,bB,bC,bD,bE,bF,bG,bH,bI,bJ,bK,bL,bM],defers:=[] } W:=by
 have HQ:=qh hQ;have HW:=qh hW;obtain ⟨tot,hB⟩:∃tot,i::Ed kss g n d i=tot:=⟨_,rfl⟩;have HT:=qh hB;clear hQ hW hB
 conv=>arg 2;whnf
 go_wp2_with fail;go_loopw [15,17] (λdv lv wr=>∃(left:Nat) (l:List Int) (x:Int),dv=int i64 left∧left≤998∧Hid (l.length+left≤d+1)∧Hid (l.getLast?=some x)∧Hid (l++Ed kss g n left x=tot)∧Hid (WayW w S wr N G n F kss ms g lv l)) (λdv _ _=>(intOf dv).toNat)
 case atStart=>exact ⟨d,[i],i,by go_num,hd,qh (by simp;omega),qh rfl,qh HT.out,HW⟩
 case round =>
  obtain ⟨left,l,x,rfl,hX,hC,hx,hD,hW⟩:=hrel
  cases left with
  | zero =>
   have hz:¬((0:Nat):Int) > 0:=by omega
   go_wp2_with fail;refine HQ.out _ _ _ _ _ _ _ _ _ _ _ _ _ _ _ _ _ _ _ _ _ _ _ _ _ _ _ _ _ _ _ _ _ _ _ _ _ _ _ _ ?_;have:=hD.out;rw [Ed,List.append_nil] at this;rw [HT.out,← this];exact hW.out
  | succ left =>
   have hp:(0:Int)<((left+1:Nat):Int):=by omega
   obtain ⟨y,hE,hF⟩:=QG kss g n left l x hx.out tot hD.out;have hG:l≠[]:=λe=>by rw [e] at hx;have:=hx.out;cases this
   have hY:0<l.length:=List.length_pos_iff.2 hG;have hH:x∈l:=List.mem_of_getLast? hx.out;have hI:=hW.out.range x hH;obtain ⟨gb,cap,hv,hA⟩:=L4 hW.out.own (by omega);have hJ:l[l.length-1]?=some x:=by rw [← List.getLast?_eq_getElem?];exact hx.out
   have yl:wr.cell? ⟨gb,l.length-1,none⟩=some (int i64 x):=hA _ _ (by unfold Jf;rw [List.getElem?_map,hJ];rfl);have hO:l.length≤1000:=by have:=hC.out;omega
   have hP:IntKind.i64.wrap ((l.length:Int)-1)=((l.length-1:Nat):Int):=by rw [IntWalk.i64_in _ (by omega)];omega
   have hR:=qh hE;have hS:=qh hF;have hT:=qh hI;clear hE hF hG hH hI hA hJ;subst hv;refine Ae (λK1 hK=>?_);have hL:=qh hK;clear hK;go_wp2_with fail;refine hL.out _ _ ?_;clear hL K1;refine Ae (λK3 hK=>?_);have hM:=qh hK;clear hK;refine wp_block ?_;change Code.wp Tryd.prog (.seq Uq (Ab 1 LO)) _ _ _;refine Ae (λK4 hK=>?_);have hN:=qh hK;clear hK
   conv=>arg 2;whnf
   go_wp2_with fail;refine hN.out _ _ ?_;clear hN K4;refine Vd i (left+1:Nat) x N G n F kss ms g _ l w S wr hW.out hn hO hT.out _ ?_
   intros
   rename_i V hV;refine hM.out _ _ ?_;have HV:=qh hV
   have hU:Hid ((l++((DS kss g x (left+1:Nat) n).toList.map λk:Nat=>(k:Int))).length+left≤d+1):=qh (by
    have h1:=hC.out;have h2:(DS kss g x (left+1:Nat) n).toList.length≤1:=by cases DS kss g x (left+1:Nat) n<;>simp
    rw [List.length_append,List.length_map];omega)
   clear hV hM K3 yl;go_wp2_with fail;go_roundw
   case rel=>exact ⟨left,_,_,by go_num,by omega,hU,hR,hS,HV⟩
   case measure=>simp [intOf]
theorem OF{kss:List (List Int)}{i nn:Int}{j:Nat}{g:Int→Option Int}{x v:Int}(h:EX kss i nn j g x=some v):g x=some v∨v=nn:=by
 unfold EX at h
 split at h
 ·exact Or.inl h
 ·split at h
  ·unfold GC at h
   split at h
   ·right;cases h;rfl
   ·exact Or.inl h
  ·exact Or.inl h
theorem KM{kss:List (List Int)}{i nn:Int}{g:Int→Option Int}{x v:Int}:∀{j:Nat},EI kss i nn g j x=some v→g x=some v∨v=nn
 | 0,h=>Or.inl h
 | _+1,h=>(OF h).elim KM Or.inr
theorem Ek{kss:List (List Int)}{i x v:Int}:∀{m:Nat},AY kss i m x=some v→1≤v∧v≤m
 | 0,h=>by cases h
 | m+1,h=>by
  rcases KM h with h|h
  ·have:=Ek h;omega
  ·omega
def DK(kss:List (List Int))(i:Nat):Bool:=(AY kss i kss.length i).isSome
def BK(kss:List (List Int)):List Int:=match (List.range kss.length).find? (DK kss) with
 | none=>[]
 | some i=>(i:Int)::Ed kss (AY kss i kss.length) kss.length (((AY kss i kss.length i).getD 1-1).toNat) i
theorem Mw{kss:List (List Int)}(h:∀i,i<kss.length→DK kss i=false):BK kss=[]:=by
 unfold BK
 have:(List.range kss.length).find? (DK kss)=none:=by
  rw [List.find?_eq_none];intro i hi;rw [h i (by simpa using hi)];simp
 rw [this]
theorem Mx{kss:List (List Int)}{i:Nat}(hi:i<kss.length)(h:∀j,j<i→DK kss j=false){d:Nat}(hy:AY kss i kss.length i=some ((d+1:Nat):Int)):BK kss=(i:Int)::Ed kss (AY kss i kss.length) kss.length d i:=by
 unfold BK
 have:(List.range kss.length).find? (DK kss)=some i:=by
  rw [List.find?_range_eq_some];exact ⟨by unfold DK;rw [hy];rfl,by simpa using hi,λj hj=>by simpa using h j hj⟩
 rw [this];simp only [hy,Option.getD_some];rw [show (((d+1:Nat):Int)-1).toNat=d by omega]
def LI(W:World)(v:Value)(l:List Int):Prop:=(l=[]∧v=.slice none 0 0)∨∃g cap,v=.slice (some ⟨g,0,none⟩) l.length cap∧l≠[]∧l.length≤cap∧cap≤maxLen∧∀(j:Nat) (x:Int),l[j]?=some x→W.cell? ⟨g,j,none⟩=some (int i64 x)
theorem RJ{w:World}{B:Nat}{v:Value}{l:List Int}(h:w.ownsRow B 3 1 v l.length (Jf l))(hl:l≠[]):LI w v l:=by
 have hp:l.length≠0:=λe=>hl (List.length_eq_zero_iff.1 e)
 have hc:=L4 h hp;rcases h.2 with ⟨rfl,h0⟩|⟨g,cap,cur,rfl,_,_,h3,h4,_⟩
 ·exact absurd h0 hp
 ·obtain ⟨g',cap',e,hA⟩:=hc
  cases e;exact Or.inr ⟨g,cap,rfl,hl,h3,h4,λj x hj=>hA j _ (by unfold Jf;rw [List.getElem?_map,hj];rfl)⟩
theorem QR:Ab 3 bodyB=.seq (bBn 3) (Ab 4 bodyB):=rfl
theorem MP:Ab 4 bodyB=.seq (bBn 4) (Ab 5 bodyB):=rfl
theorem QS:Ab 5 bodyB=.seq (bBn 5) (Ab 6 bodyB):=rfl
theorem QT:Ab 6 bodyB=.seq (bBn 6) (Ab 7 bodyB):=rfl
theorem FarW.start{w W W1:World}{N G n:Nat}{kss:List (List Int)}{ms:List Nat}(h:NextW w W N G n kss ms)(hl:ms.length=n)(hk:kss.length=n)(h1:W.alloc (.map #[] 0)=W1):FarW w W1 N G n W.heap.size kss ms (λ_=>none):=by
 have b1:Below W.heap.size W W1:=by rw [← h1];exact (Below.refl _ _).alloc (qn _) _
 have hN:=(qs.1 h.box).1;have hG:=(qs.1 h.row).1;exact ⟨h.keep b1,hl,hk,by rw [← h1];exact FarM.new W,h.below.size,λhm=>by have:=h.lts hk hm;omega,by omega,by omega⟩
theorem RW(i N G n:Nat)(kss:List (List Int))(ms:List Nat)(w W:World)(hW:NextW w W N G n kss ms)(hl:ms.length=n)(hJ:kss.length=n)(hn:n≤999)(hi:i<n)(Q:Exit→Act→World→Prop)
  (hN:AY kss i n i=none→∀(x2 x6 x7 x8 x9 bO bP bQ bR bS bT bU bV bW bY bZ ca cb cc cd ce cf cg ch ci cj ck cm cn co cp cq cr cs ct cu cv cw cx cy cz cA cB cC cD cE cF cG cH cI cJ cK cL cM cN cO cP cQ cR cS cT cU cV cW cX cY cZ da db dc dd de df dg dh di dj dk dl dm dn dp dq dr ds dt du dv dw dx dy dz dA dB dC dD dE dF dG dH dI dJ dK dL dM dN dO dP dQ dR dS dT dU dV dW dX dY dZ fa fb:Value) (V:World),NextW w V N G n kss ms→Q (.exit 3) { tmps:=#[e0,e1,x2,.pointer (some ⟨N,0,none⟩),e4,e5,x6,x7,x8,x9,bO,bP,bQ,bR,bS,bT,bU,bV,bW,bY,ek,el,em,en,eo,ep,eq,er,es,et,eu,ev,ew,ex,ey,ez,eA,eB,eC,eD,eE,eF,eG,int i64 i,eH,bZ,ca,cb,cc,cd,ce,cf,cg,ch,ci,cj,ck,cm,cn,co,cp,cq,cr,cs,ct,cu,cv,cw,cx,cy,cz,cA,cB,cC,cD,cE,cF,cG,cH,cI,cJ,cK,cL,cM,cN,cO,cP,cQ,cR,cS,cT,cU,cV,cW,cX,cY,cZ,da,db,dc,dd,de,df,dg,dh,di,dj,dk,dl,dm,dn,dp,dq,dr,ds,dt,du,dv,dw,dx,dy,dz,dA,dB,dC,dD,dE,dF,dG,dH,dI,dJ,dK,dL,dM,dN,dO,dP,dQ,dR,dS,dT,dU,dV,dW,dX,dY,dZ,fa,fb,bN],defers:=[] } V)
  (hR:∀d:Nat,AY kss i n i=some ((d+1:Nat):Int)→∀(v':Value) (x6 x7 x8 x9 bO bP bQ bR bS bT bU bV bW bY bZ ca cb cc cd ce cf cg ch ci cj ck cm cn co cp cq cr cs ct cu cv cw cx cy cz cA cB cC cD cE cF cG cH cI cJ cK cL cM cN cO cP cQ cR cS cT cU cV cW cX cY cZ da db dc dd de df dg dh di dj dk dl dm dn dp dq dr ds dt du dv dw dx dy dz dA dB dC dD dE dF dG dH dI dJ dK dL dM dN dO dP dQ dR dS dT dU dV dW dX dY dZ fa fb:Value) (V:World),Below w.heap.size w V→LI V v' ((i:Int)::Ed kss (AY kss i n) n d i)→Q .ret { tmps:=#[e0,e1,v',.pointer (some ⟨N,0,none⟩),e4,e5,x6,x7,x8,x9,bO,bP,bQ,bR,bS,bT,bU,bV,bW,bY,ek,el,em,en,eo,ep,eq,er,es,et,eu,ev,ew,ex,ey,ez,eA,eB,eC,eD,eE,eF,eG,int i64 i,eH,bZ,ca,cb,cc,cd,ce,cf,cg,ch,ci,cj,ck,cm,cn,co,cp,cq,cr,cs,ct,cu,cv,cw,cx,cy,cz,cA,cB,cC,cD,cE,cF,cG,cH,cI,cJ,cK,cL,cM,cN,cO,cP,cQ,cR,cS,cT,cU,cV,cW,cX,cY,cZ,da,db,dc,dd,de,df,dg,dh,di,dj,dk,dl,dm,dn,dp,dq,dr,ds,dt,du,dv,dw,dx,dy,dz,dA,dB,dC,dD,dE,dF,dG,dH,dI,dJ,dK,dL,dM,dN,dO,dP,dQ,dR,dS,dT,dU,dV,dW,dX,dY,dZ,fa,fb,bN],defers:=[] } V) :
  bodyB.wp Tryd.prog Q { tmps:=#[e0,e1,e2,.pointer (some ⟨N,0,none⟩),e4,e5,e6,e7,e8,e9,ea,eb,ec,ed,ee,ef,eg,eh,ei,ej,ek,el,em,en,eo,ep,eq,er,es,et,eu,ev,ew,ex,ey,ez,eA,eB,eC,eD,eE,eF,eG,int i64 i,eH,eI,eJ,eK,eL,eM,eN,eO,eP,eQ,eR,eS,eT,eU,eV,eW,eX,eY,eZ,aa,ab,ac,ae,af,ag,ah,ai,aj,ak,al,am,an,ao,ap,aq,ar,au,av,aw,ax,ay,az,aA,aB,aC,aD,aE,aF,aG,aH,aI,aJ,aK,aL,aM,aN,aO,aP,aQ,aR,aS,aT,aU,aV,aW,aX,aY,aZ,ba,bb,bc,bd,be,bf,bg,bh,bi,bj,bk,bl,bm,bn,bo,bp,bq,br,bs,bt,bu,bv,bw,bx,bz,bA,bB,bC,bD,bE,bF,bG,bH,bI,bJ,bK,bL,bM,bN],defers:=[] } W:=by
 obtain ⟨W1,hI⟩:∃W1,W.alloc (.map #[] 0)=W1:=⟨_,rfl⟩;have hF:=FarW.start hW hl hJ hI;have HN:=qh hN;have HR:=qh hR;have HF:=qh hF;clear hN hR hF hW;have hL:=@run_makeMap Tryd.prog;generalize hM:W.heap.size=F at *;rw [QO];refine Ae (λK hK=>?_);have HK:=qh hK;clear hK
 conv=>arg 2;whnf
 go_wp2_with fail;refine HK.out _ _ ?_;clear HK K;rw [QP];refine Ae (λK hK=>?_);have HK:=qh hK;clear hK
 conv=>arg 2;whnf
 go_wp2_with fail;refine HK.out _ _ ?_;clear HK K hI hL hM;rw [QQ];refine Ae (λK hK=>?_);have HK:=qh hK;clear hK;refine TU i N G n F kss ms w W1 HF.out (by omega) _ ?_
 intros
 rename_i V hV;refine HK.out _ _ ?_;clear HK K;have hD:=hV.far.lookup i;have HV:=qh hV;clear hV;rw [QR];refine Ae (λK hK=>?_);have HK:=qh hK;clear hK
 cases hA:AY kss i n i with
 | none =>
  rw [hA] at hD;have hE:=qh hA;clear hA
  conv=>arg 2;whnf
  go_wp2_with fail;refine HK.out _ _ ?_;clear HK K hD;rw [MP];refine Ae (λK hK=>?_);have HK:=qh hK;clear hK
  conv=>arg 2;whnf
  go_wp2_with fail;exact HN.out hE.out _ _ _ _ _ _ _ _ _ _ _ _ _ _ _ _ _ _ _ _ _ _ _ _ _ _ _ _ _ _ _ _ _ _ _ _ _ _ _ _ _ _ _ _ _ _ _ _ _ _ _ _ _ _ _ _ _ _ _ _ _ _ _ _ _ _ _ _ _ _ _ _ _ _ _ _ _ _ _ _ _ _ _ _ _ _ _ _ _ _ _ _ _ _ _ _ _ _ _ _ _ _ _ _ _ _ _ _ _ _ _ _ _ _ _ _ _ _ _ _ _ HV.out.next
 | some v0 =>
  have hP:=Ek hA;obtain ⟨d,rfl⟩:∃d:Nat,v0=((d+1:Nat):Int):=⟨(v0-1).toNat,by omega⟩;rw [hA] at hD;have hE:=qh hA;clear hA
  conv=>arg 2;whnf
  go_wp2_with fail;refine HK.out _ _ ?_;clear HK K hD;rw [MP];refine Ae (λK hK=>?_);have HK:=qh hK;clear hK
  conv=>arg 2;whnf
  go_wp2_with fail;refine HK.out _ _ ?_;clear HK K;rw [QS];refine Ae (λK hK=>?_);have HK:=qh hK;clear hK;obtain ⟨W2,hG⟩:∃W2,V.alloc (.cells #[int i64 (i:Int)] 3)=W2:=⟨_,rfl⟩
  have hB:WayW w V W2 N G n F kss ms (AY kss i n) (.slice (some ⟨V.heap.size,0,none⟩) 1 1) [(i:Int)]:=by
   refine ⟨HV.out,by rw [← hG];exact (Below.refl _ _).alloc (qn _) _,?_,λx hx=>by simp at hx;subst hx;omega⟩;rw [← hG];exact World.ownsRow_lit V #[int i64 (i:Int)] 1 (qn _) (by unfold maxLen;omega) rfl
  have HY:=qh hB;clear hB
  conv=>arg 2;whnf
  go_wp2_with fail;refine HK.out _ _ ?_;clear HK K hG;rw [QT];refine Ae (λK hK=>?_);have HK:=qh hK;clear hK;refine TX i d N G n F kss ms (AY kss i n) _ w V W2 HY.out (by omega) (by omega) _ ?_
  intros
  rename_i V2 hH;refine HK.out _ _ ?_;clear HK K;have hb:=Ag HV.out.next.below (hH.below.mono (qn _))
  have hC:=RJ hH.own (by simp);have HB:=qh hb;have hO:=qh hC;clear hH hb hC
  conv=>arg 2;whnf
  go_wp2_with fail;exact HR.out d hE.out _ _ _ _ _ _ _ _ _ _ _ _ _ _ _ _ _ _ _ _ _ _ _ _ _ _ _ _ _ _ _ _ _ _ _ _ _ _ _ _ _ _ _ _ _ _ _ _ _ _ _ _ _ _ _ _ _ _ _ _ _ _ _ _ _ _ _ _ _ _ _ _ _ _ _ _ _ _ _ _ _ _ _ _ _ _ _ _ _ _ _ _ _ _ _ _ _ _ _ _ _ _ _ _ _ _ _ _ _ _ _ _ _ _ _ _ _ _ _ _ _ HB.out hO.out
def SG(kss:List (List Int))(w:World)(e:Ending)(w':World):Prop:=∃v,e=.returned v∧Below w.heap.size w w'∧LI w' v (BK kss)
theorem VI:Cq=.seq Pa (Ab 1 Cq):=rfl
theorem Vc(B N G n:Nat)(kss:List (List Int))(ms:List Nat)(w0 w W:World)(hD:Below w0.heap.size w0 w)(hW:NextW w W N G n kss ms)(hl:ms.length=n)(hB:kss.length=n)(hn:n≤999):
  (Ab 3 Cq).wp Tryd.prog (bodyPost Tryd.prog Tryd.f45 (SG kss w0)) { tmps:=#[e0,.pointer (some ⟨B,0,none⟩),.slice none 0 0,.pointer (some ⟨N,0,none⟩),e4,e5,e6,e7,e8,e9,ea,eb,ec,ed,ee,ef,eg,eh,ei,ej,ek,el,em,en,eo,ep,eq,er,es,et,eu,ev,ew,ex,ey,ez,eA,eB,eC,eD,eE,eF,eG,eH,eI,eJ,eK,eL,eM,eN,eO,eP,eQ,eR,eS,eT,eU,eV,eW,eX,eY,eZ,aa,ab,ac,ae,af,ag,ah,ai,aj,ak,al,am,an,ao,ap,aq,ar,au,av,aw,ax,ay,az,aA,aB,aC,aD,aE,aF,aG,aH,aI,aJ,aK,aL,aM,aN,aO,aP,aQ,aR,aS,aT,aU,aV,aW,aX,aY,aZ,ba,bb,bc,bd,be,bf,bg,bh,bi,bj,bk,bl,bm,bn,bo,bp,bq,br,bs,bt,bu,bv,bw,bx,bz,bA,bB,bC,bD,bE,bF,bG,bH,bI,bJ,bK,bL,bM,bN,bO],defers:=[] } W:=by
 have y3:=Aa hW.box 0 rfl;have HW:=qh hW;have hE:=qh hD;clear hW hD;rw [RZ];refine Ae (λK hK=>?_);have HK:=qh hK;clear hK
 conv=>arg 2;whnf
 go_wp2_with fail;go_loopw [43] (λiv wr=>∃i:Nat,iv=int i64 i∧i≤n∧Hid (∀j,j<i→DK kss j=false)∧Hid (NextW w wr N G n kss ms)) (λiv _=>n+1-(intOf iv).toNat)
 case atStart=>exact ⟨0,rfl,Nat.zero_le _,qh (λj hj=>by omega),HW⟩
 case round =>
  obtain ⟨i,rfl,hQ,hC,hF⟩:=hrel;by_cases hN:i<n
  ·have hi:(i:Int)<(n:Int):=by omega
   refine Ae (λK1 hK=>?_);have hG:=qh hK;clear hK;go_wp2_with fail;refine hG.out _ _ ?_;clear hG K1;refine Ae (λK2 hK=>?_);have hH:=qh hK;clear hK;go_wp2_with fail;refine hH.out _ _ ?_;clear hH K2;refine Ae (λK3 hK=>?_);have hI:=qh hK;clear hK;refine wp_block ?_;change Code.wp Tryd.prog bodyB _ _ _;refine RW i N G n kss ms w wr hF.out hl hB hn hN _ (λhJ=>?_) (λd hL=>?_)
   ·intros
    rename_i V hV;refine hI.out _ _ ?_;have HV:=qh hV;have hM:DK kss i=false:=by unfold DK;rw [hB,hJ];rfl
    have hO:=qh hM;clear hV hI K3 hJ hM;go_wp2_with fail;go_roundw
    case rel=>exact ⟨i+1,by go_num,by omega,qh (λj hj=>by rcases Nat.lt_or_ge j i with h|h;exact hC.out j h;rw [show j=i by omega];exact hO.out),HV⟩
    case measure=>simp [intOf];omega
   ·intros
    rename_i v' _ _ _ _ _ _ _ _ _ _ _ _ _ _ _ _ _ _ _ _ _ _ _ _ _ _ _ _ _ _ _ _ _ _ _ _ _ _ _ _ _ _ _ _ _ _ _ _ _ _ _ _ _ _ _ _ _ _ _ _ _ _ _ _ _ _ _ _ _ _ _ _ _ _ _ _ _ _ _ _ _ _ _ _ _ _ _ _ _ _ _ _ _ _ _ _ _ _ _ _ _ _ _ _ _ _ _ _ _ _ _ _ _ _ _ _ _ _ _ V hP hA;rw [← hB] at hL hA;have hm:=Mx (by omega) hC.out hL;rw [← hm] at hA;refine bodyPost_ret (v:=v') ?_ rfl ⟨v',rfl,Ag hE.out hP,hA⟩;simp [results,Tryd.results45,go_sem]
  ·have:i=n:=by omega
   subst this;have hz:¬(i:Int)<(i:Int):=by omega
   have hm:BK kss=[]:=Mw (λj hj=>hC.out j (by omega));have HM:=qh hm;clear hm;go_wp2_with fail;refine HK.out _ _ ?_
   conv=>arg 2;whnf
   go_wp2_with fail;go_ret;exact ⟨_,rfl,Ag hE.out hF.out.below,Or.inl ⟨HM.out,rfl⟩⟩
theorem Qo(s:Ls)(f:Nm→Int)(w:World)(hA:s.At w)(hU:NumAt f w (Aw s.phrases))(hn:s.phrases.length≤999):Calls Tryd.prog 45 #[s.val] w (SG (s.nexts f) w):=by
 obtain ⟨W,hW,hB,hE⟩:∃W,w.alloc (.cells s.cells 55)=W∧W.heap[w.heap.size]?=some (.cells s.cells 55 (0,0))∧Below w.heap.size w W:=⟨_,rfl,heap_alloc_new w _,(Below.refl _ w).alloc (qn _) _⟩;have hS:RgS s f w.heap.size W:=⟨hA.below hE,hB,hU.below hE⟩;have y9:W.cell? ⟨w.heap.size,10,none⟩=some (.slice s.fa s.phrases.length s.fc):=Aa hB 10 rfl;have hG:(s.nexts f).length=s.phrases.length:=by simp [Ls.nexts]
 obtain ⟨n,hC⟩:∃n,s.phrases.length=n:=⟨_,rfl⟩;obtain ⟨W1,hH,gW1,bW1,sW1⟩:=Af W (Array.replicate n (.map none)) 145;obtain ⟨W2,hF,gW2,bW2,sW2⟩:=Af W1 #[.slice (some ⟨W.heap.size,0,none⟩) n n] 144;have hI:=Ag bW1 bW2
 have hJ:NextW W W2 W1.heap.size W.heap.size n (s.nexts f) []:=by
  refine ⟨hI,by omega,qn _,gW2,?_,Nat.zero_le _,by simp,by simp,List.nodup_nil⟩;rw [← Ow];exact Ah bW2 gW1
 have hD:=O2 n (by omega) W;rw [hH] at hD;have hv:s.val=.agg s.cells:=rfl;rw [hv];have HS:=qh hS;have hO:=qh hJ;have hP:=qh hG;have hQ:=qh hC;have hR:=qh hE;have hL:=qh hF;have hM:=qh hD;rw [hC] at y9;have hN:=qh y9;unfold Ls.cells at hW ⊢;rw [hC] at hW hn ⊢;clear hA hU hS hJ hG hv hB hH gW1 bW1 gW2 bW2 hI hC hE hF hD y9 sW2;go_enter Tryd.func45,Tryd.ntmps45;change Code.wp Tryd.prog Cq _ _ _;rw [VI];refine Ae (λK hK=>?_);have HK:=qh hK;clear hK
 conv=>arg 2;whnf
 go_wp2_with fail;refine HK.out _ _ ?_;clear HK K hW;have y9:=hN.out;have hD:=hM.out;have hF:=hL.out;rw [RX];refine Ae (λK hK=>?_);have HK:=qh hK;clear hK
 conv=>arg 2;whnf
 go_wp2_with fail;rw [← sW1];refine HK.out _ _ ?_;clear HK K hD hF y9 hL hM hN;have hC:=hQ.out;subst hC;rw [RY];refine Ae (λK hK=>?_);have HK:=qh hK;clear hK;refine Vb s f w.heap.size W1.heap.size W.heap.size W W2 HS.out (by omega) hO.out _ ?_;intro ms x4 x5 x6 x7 x8 x9 x10 x11 x12 x13 x14 x15 x16 x17 x18 x19 x20 x21 x22 x23 x24 x25 x26 x27 x28 x29 x30 x31 x32 x33 x34 x35 x36 x37 x38 x39 x40 x41 x42 x43 x44 x45 x46 x47 x48 x49 x50 x51 x52 x53 x54 x55 x56 x57 x58 x59 x60 x61 x62 x63 x64 x65 x66 x67 x68 x69 x70 x71 x72 x73 x74 x75 x76 x77 x78 x79 x80 x81 x82 x83 x84 x85 x86 x87 x88 x89 x90 x91 x92 x93 x94 x95 x96 x97 x98 x99 x100 x101 x102 x103 x104 x105 x106 x107 x108 x109 x110 x111 x112 x113 x114 x115 x116 x117 x118 x119 x120 x121 x122 x123 x124 x125 x126 x127 x128 x129 x130 x131 x132 x133 x134 x135 x136 x137 x138 x139 x140 x141 x142 x143 x144 x145 x146 x147 x148 x149 x150 V hV hT;refine HK.out _ _ ?_;clear HK K;exact Vc w.heap.size W1.heap.size W.heap.size s.phrases.length (s.nexts f) ms w W V hR.out hV hT hP.out hn
def Its.sumF(f:Nm→Int)(F:Int→Int):Its→Int→Int
 | .nil,n=>n
 | .cons k nn un its _ r,n=>r.sumF f F (min (n+(if k=1 then 1 else if k=2 then nn*its.sumF f F 0 else if k=3 then its.sumF f F 0 else if k=4 then F (f un) else 0)) 4097)
theorem Its.exB_parts{k n:Int}{un:Nm}{its:Its}{ms:List Mov}{r:Its}(h:(Its.cons k n un its ms r).exB=true):EJ k n=true∧its.exB=true∧r.exB=true:=by
 simp only [Its.exB,Bool.and_eq_true] at h;exact ⟨h.1,h.2.2.2.1.2,h.2.2.2.2⟩
theorem Fx{n:Int}(h:EJ 2 n=true):1≤n∧n≤64:=by
 unfold EJ inB at h;simp at h;omega
theorem Its.sumF_bound(f:Nm→Int)(F:Int→Int):∀(T:Its) (n:Int),T.exB=true→(∀u∈T.uses f,0≤F u∧F u≤4097)→0≤n→n≤4097→0≤T.sumF f F n∧T.sumF f F n≤4097
 | .nil,n,_,_,h0,h1=>⟨h0,h1⟩
 | .cons k nn un its ms r,n,hx,hu,h0,h1=>by
  obtain ⟨hn,hi,hr⟩:=Its.exB_parts hx;have hA:=its.sumF_bound f F 0 hi (λu h=>hu u (by simp [Its.uses,h])) (by omega) (by omega);have hF:k=4→0≤F (f un):=λhk=>(hu (f un) (by simp [Its.uses,hk])).1
  unfold Its.sumF
  have hv:0≤(if k=1 then 1 else if k=2 then nn*its.sumF f F 0 else if k=3 then its.sumF f F 0 else if k=4 then F (f un) else 0):=by
   split
   ·omega
   ·split
    ·rename_i h2
     subst h2;exact Int.mul_nonneg (by have:=Fx hn;omega) hA.1
    ·split
     ·exact hA.1
     ·split
      ·rename_i h4;exact hF h4
      ·omega
  exact r.sumF_bound f F _ hr (λu h=>hu u (by simp [Its.uses,h])) (by omega) (by omega)
structure LenW(W:World)(s:Ls)(f:Nm→Int)(B KB M SB PB:Nat)(len:Int→Int):Prop where
 sc:∃w0,RgS s f B w0∧Below w0.heap.size w0 W∧w0.heap.size≤M
 kb:W.heap[KB]?=some (.cells #[.map (some M)] 148 (0,0))
 sb:W.heap[SB]?=some (.cells #[.func (.func 64) #[] #[.pointer (some ⟨SB,0,none⟩),.pointer (some ⟨PB,0,none⟩)]] 126 (0,0))
 pb:W.heap[PB]?=some (.cells #[.func (.func 65) #[] #[.pointer (some ⟨KB,0,none⟩),.pointer (some ⟨SB,0,none⟩),.pointer (some ⟨B,0,none⟩)]] 119 (0,0))
 known:∃g,FarM W M g∧∀x v,g x=some v→v=len x
theorem LenW.score{W:World}{s:Ls}{f:Nm→Int}{B KB M SB PB:Nat}{len:Int→Int}(h:LenW W s f B KB M SB PB len):RgS s f B W:=by
 obtain ⟨w0,h1,h2,_⟩:=h.sc;exact h1.below h2
theorem FarM.isMap{W:World}{F:Nat}{g:Int→Option Int}(h:FarM W F g):EP W F:=by
 obtain ⟨kvs,h1,_⟩:=h;obtain ⟨es,c,h2,_⟩:=h1;exact ⟨es,c,h2⟩
theorem LenW.isMap{W:World}{s:Ls}{f:Nm→Int}{B KB M SB PB:Nat}{len:Int→Int}(h:LenW W s f B KB M SB PB len):EP W M:=by
 obtain ⟨g,h1,_⟩:=h.known;exact h1.isMap
theorem LenW.below{W V:World}{s:Ls}{f:Nm→Int}{B KB M SB PB:Nat}{len:Int→Int}(h:LenW W s f B KB M SB PB len)(hb:Below W.heap.size W V):LenW V s f B KB M SB PB len:=by
 obtain ⟨g,h1,h2⟩:=h.known;obtain ⟨w0,a1,a2,a3⟩:=h.sc;exact ⟨⟨w0,a1,Ag a2 hb,a3⟩,Ah hb h.kb,Ah hb h.sb,Ah hb h.pb,⟨g,h1.of_block (hb.block M h1.lt),h2⟩⟩
theorem Dx{w w':World}{m:Nat}(hb:Below w.heap.size w w'):w.grownBy w' (some m):=⟨hb.os,hb.tape,hb.output,hb.size,λk hk _=>hb.block k hk⟩
def JI(s:Ls)(f:Nm→Int)(B KB M SB PB:Nat)(len:Int→Int)(v:Int)(W:World)(e:Ending)(W':World):Prop:=e=.returned (int i64 v)∧LenW W' s f B KB M SB PB len∧W.grownBy W' (some M)
def QL(s:Ls)(f:Nm→Int)(B KB M SB PB:Nat)(len:Int→Int)(us:List Int):Prop:=∀u∈us,∀V,LenW V s f B KB M SB PB len→Calls Tryd.prog 65 #[int i64 u,.pointer (some ⟨KB,0,none⟩),.pointer (some ⟨SB,0,none⟩),.pointer (some ⟨B,0,none⟩)] V (JI s f B KB M SB PB len (len u) V)
theorem Ln(s:Ls)(f:Nm→Int)(B KB M SB PB:Nat)(len:Int→Int)(T:Lt)
  (hI:∀T':Lt,T'.size<T.size→∀(ia:Option Addr) (ic:Nat) (W:World),T'.strip.exB=true→(∀u∈T'.strip.uses f,0≤len u∧len u≤4097)→QL s f B KB M SB PB len (T'.strip.uses f)→(T'.len=0∨ia=some ⟨blk ia,off ia,none⟩)→T'.len≤maxLen→T'.At W (blk ia) (off ia)→NumAt f W (T'.refsL (blk ia) (off ia))→LenW W s f B KB M SB PB len→Calls Tryd.prog 64 #[.slice ia T'.len ic,.pointer (some ⟨SB,0,none⟩),.pointer (some ⟨PB,0,none⟩)] W (JI s f B KB M SB PB len (T'.strip.sumF f len 0) W))
  (ia:Option Addr) (ic:Nat) (W:World) (hx:T.strip.exB=true) (hu:∀u∈T.strip.uses f,0≤len u∧len u≤4097) (hP:QL s f B KB M SB PB len (T.strip.uses f)) (hf:T.len=0∨ia=some ⟨blk ia,off ia,none⟩) (hl:T.len≤maxLen) (hT:T.At W (blk ia) (off ia)) (hU:NumAt f W (T.refsL (blk ia) (off ia))) (hL:LenW W s f B KB M SB PB len):Calls Tryd.prog 64 #[.slice ia T.len ic,.pointer (some ⟨SB,0,none⟩),.pointer (some ⟨PB,0,none⟩)] W (JI s f B KB M SB PB len (T.strip.sumF f len 0) W):=by
 have HI:=qh hI;have HT:=qh hT;have HF:=qh hf;have HU:=qh hU;have HL:=qh hL;have HX:=qh hx;have he:=qh hu;have HP:=qh hP;clear hI hT hf hU hL hx hu hP;generalize hm:T.len=q at *;have HM:=qh hm;clear hm;unfold maxLen at hl;go_enter Tryd.func64,Tryd.ntmps64;go_wp2_with fail;go_loopw [4,9] (λav iv wr=>∃(j:Nat) (R:Lt) (a:Int),iv=int i64 j∧av=int i64 a∧j+R.len=q∧0≤a∧a≤4097∧Hid (R.size≤T.size)∧Hid (T.strip.sumF f len 0=R.strip.sumF f len a)∧Hid (R.strip.exB=true)∧Hid (∀u∈R.strip.uses f,u∈T.strip.uses f)∧Hid (R.At wr (blk ia) (off ia+j*6))∧Hid (NumAt f wr (R.refsL (blk ia) (off ia+j*6)))∧Hid (LenW wr s f B KB M SB PB len)∧Hid (W.grownBy wr (some M))) (λ_ iv _=>q+1-(intOf iv).toNat)
 case atStart=>exact ⟨0,T,0,rfl,rfl,by rw [HM.out];omega,by omega,by omega,qh (qn _),qh rfl,HX,qh (λ_ h=>h),by simpa [Hid] using HT.out,by simpa [Hid] using HU.out,HL,qh (World.grownBy.refl _ _)⟩
 case round =>
  obtain ⟨j,R,a,rfl,rfl,hg,HQ,HS,hh,hH,ho,ha,hR,hK,hb,hB⟩:=hrel
  cases R with
  | nil =>
   simp only [Lt.len,Nat.add_zero] at hg;subst hg;go_wp2_with fail;go_ret;exact ⟨by rw [hH.out];rfl,hb.out,hB.out⟩
  | cons kk nn un ja jc its ma mc ms r =>
   simp only [Lt.len] at hg;have hi:(j:Int)<(q:Int):=by omega
   have e:=HF.out.resolve_left (by omega);obtain ⟨⟨u,g3,hu⟩,_,k2,k3⟩:=hK.out.mov;obtain ⟨⟨g0,g1,g2,g4,g5⟩,_,⟨i1,i2,i3⟩,hr⟩:=hR.out;obtain ⟨hp,hj,hq⟩:=Its.exB_parts ho.out;have hs:its.size<T.size:=by have:=hh.out;simp only [Lt.size] at this;omega
   have hJ:r.size≤T.size:=by have:=hh.out;simp only [Lt.size] at this;omega
   obtain ⟨W2,HV,gW2,bW2,sW2⟩:=Af wr #[int i64 kk,int i64 nn,sv un,int i64 u,.slice ja its.len jc,.slice ma ms.length mc] 97;have hM:=hb.out.below bW2;have hM2:=hM.isMap;have ht:=hb.out.isMap;have hd:∀u∈its.strip.uses f,u∈T.strip.uses f:=λv hv=>ha.out v (by simp [Lt.strip,Its.uses,hv])
   have hw:∀u∈r.strip.uses f,u∈T.strip.uses f:=λv hv=>ha.out v (by simp [Lt.strip,Its.uses,hv])
   have hy:=Its.sumF_bound f len its.strip 0 hj (λu h=>he.out u (hd u h)) (by omega) (by omega);have C:=λ(V:World) (hv:W2.grownBy V (some M)) (hc:LenW V s f B KB M SB PB len)=>HI.out its hs ja jc V hj (λu h=>he.out u (hd u h)) (λu h=>HP.out u (hd u h)) i1 i2 ((i3.below bW2).grown hM2 hv) ((k2.below bW2).grown hM2 hv) hc
   obtain ⟨si,hk⟩:∃si,its.strip.sumF f len 0=si:=⟨_,rfl⟩;rw [hk] at C hy
   have hz:T.strip.sumF f len 0=r.strip.sumF f len (min (a+(if kk=1 then 1 else if kk=2 then nn*si else if kk=3 then si else if kk=4 then len (f un) else 0)) 4097):=by
    rw [hH.out];simp only [Lt.strip,Its.sumF,hk]
   have hN:=qh hz;have HC:=qh C
   have HR:Hid (r.At wr (blk ia) (off ia+(j+1)*6)∧NumAt f wr (r.refsL (blk ia) (off ia+(j+1)*6))):=qh (by
    rw [show off ia+(j+1)*6=off ia+j*6+6 by omega]
    exact ⟨hr,k3⟩)
   have HW:=qh gW2;have hO:=qh bW2;have hQ:=qh hM;have h8:=qh hM2;have hS:=qh hJ;have hE:=qh ht;have hV:=qh hq;have hW:=qh hw;have h9:Hid (kk=4→u=f un∧u∈T.strip.uses f):=qh (λh4=>⟨hu h4,by rw [hu h4];exact ha.out _ (by simp [Lt.strip,Its.uses,h4])⟩);have HA:Hid (kk=2→1≤nn∧nn≤64):=qh (λh2=>by subst h2;exact Fx hp);have y0:=Aa gW2 0 rfl;have y1:=Aa gW2 1 rfl;have y3:=Aa gW2 3 rfl;have y4:=Aa gW2 4 rfl;have zs:=Aa hM.sb 0 rfl;have zp:=Aa hM.pb 0 rfl;obtain ⟨h0,HB⟩:=hy;clear C gW2 bW2 sW2 i1 i2 i3 hr hs k2 k3 hR hK ha hh hJ hM hM2 ht hq hj hp ho hH hz hw hd hk hu hb;generalize HE:blk ia=bb at *;generalize HG:off ia=oo at *;subst e;clear HE HG HF;by_cases h1:kk=1
   ·subst h1
    have hA:Hid (T.strip.sumF f len 0=r.strip.sumF f len (min (a+1) 4097)):=qh (by rw [hN.out,if_pos rfl]);have hD:=Dx (m:=M) hO.out;have hC:=qh hD;clear hD;go_wp2_with fail;go_roundw
    case rel=>exact ⟨j+1,r,_,by go_num,rfl,by omega,by omega,by omega,hS,hA,hV,hW,qh (HR.out.1.grown hE.out hC.out),qh (HR.out.2.grown hE.out hC.out),hQ,qh (BB hB.out hC.out)⟩
    case measure=>simp [intOf];omega
   ·by_cases h2:kk=2
    ·subst h2
     obtain ⟨HY,HH⟩:=HA.out rfl;have hA:Hid (T.strip.sumF f len 0=r.strip.sumF f len (min (a+nn*si) 4097)):=qh (by rw [hN.out,if_neg h1,if_pos rfl]);have HZ:0≤nn*si:=Int.mul_nonneg (by omega) h0;have Ha:nn*si≤64*4097:=Int.mul_le_mul HH HB h0 (by omega);have HJ:IntKind.i64.wrap (nn*si)=nn*si:=IntWalk.i64_in _ (by omega);have HK:IntKind.i64.wrap (a+nn*si)=a+nn*si:=IntWalk.i64_in _ (by omega);go_wp2_with fail;have HD:=qh (And.intro (Dx (m:=M) (Ce W2 W2.heap.size)) (hQ.out.below (Ce W2 W2.heap.size)));have HN:Hid (EP W2.drew M):=qh h8.out;have HO:Hid (W2.drew.cell? ⟨wr.heap.size,1,none⟩=some (int i64 nn)):=qh y1
     go_region_with (go_at_call 64;refine (HC.out _ HD.out.1 HD.out.2).mono ?_;rintro e V ⟨rfl,hG,hF⟩;have hX:=qh hG;have hY:=qh hF;have zz:=BM HO.out HN.out hF;clear hG hF)
     all_goals
      clear HJ HK;go_wp2_with fail;have hD:=D4 hO.out (BB HD.out.1 hY.out);have hC:=qh hD;clear hD;go_roundw
      case rel=>exact ⟨j+1,r,_,by go_num,rfl,by omega,by omega,by omega,hS,hA,hV,hW,qh (HR.out.1.grown hE.out hC.out),qh (HR.out.2.grown hE.out hC.out),hX,qh (BB hB.out hC.out)⟩
      case measure=>simp [intOf];omega
    ·by_cases h3:kk=3
     ·subst h3
      have hA:Hid (T.strip.sumF f len 0=r.strip.sumF f len (min (a+si) 4097)):=qh (by rw [hN.out,if_neg h1,if_neg h2,if_pos rfl])
      go_wp2_with (go_at_call 64;refine (HC.out _ (World.grownBy.refl _ _) hQ.out).mono ?_;rintro e V ⟨rfl,hG,hF⟩;have hX:=qh hG;have hY:=qh hF;clear hG hF);have hD:=D4 hO.out hY.out;have hC:=qh hD;clear hD;go_roundw
      case rel=>exact ⟨j+1,r,_,by go_num,rfl,by omega,by omega,by omega,hS,hA,hV,hW,qh (HR.out.1.grown hE.out hC.out),qh (HR.out.2.grown hE.out hC.out),hX,qh (BB hB.out hC.out)⟩
      case measure=>simp [intOf];omega
     ·by_cases h4:kk=4
      ·subst h4
       obtain ⟨h5,hn⟩:=h9.out rfl;have hA:Hid (T.strip.sumF f len 0=r.strip.sumF f len (min (a+len u) 4097)):=qh (by rw [hN.out,if_neg h1,if_neg h2,if_neg h3,if_pos rfl,← h5]);have h6:=he.out u hn;have h7:=qh (HP.out u hn W2 hQ.out);clear h5 hn;obtain ⟨lu,hZ⟩:∃lu,len u=lu:=⟨_,rfl⟩;rw [hZ] at h7 hA h6;obtain ⟨l0,l1⟩:=h6;clear hZ
       go_wp2_with (go_at_call 65;refine h7.out.mono ?_;rintro e V ⟨rfl,hG,hF⟩;have hX:=qh hG;have hY:=qh hF;clear hG hF);have hD:=D4 hO.out hY.out;have hC:=qh hD;clear hD;go_roundw
       case rel=>exact ⟨j+1,r,_,by go_num,rfl,by omega,by omega,by omega,hS,hA,hV,hW,qh (HR.out.1.grown hE.out hC.out),qh (HR.out.2.grown hE.out hC.out),hX,qh (BB hB.out hC.out)⟩
       case measure=>simp [intOf];omega
      ·have hA:Hid (T.strip.sumF f len 0=r.strip.sumF f len (min (a+0) 4097)):=qh (by rw [hN.out,if_neg h1,if_neg h2,if_neg h3,if_neg h4])
       have hD:=Dx (m:=M) hO.out;have hC:=qh hD;clear hD;go_wp2_with fail;go_roundw
       case rel=>exact ⟨j+1,r,_,by go_num,by simp,by omega,by omega,by omega,hS,hA,hV,hW,qh (HR.out.1.grown hE.out hC.out),qh (HR.out.2.grown hE.out hC.out),hQ,qh (BB hB.out hC.out)⟩
       case measure=>simp [intOf];omega
theorem Sm(s:Ls)(f:Nm→Int)(B KB M SB PB:Nat)(len:Int→Int):∀(z:Nat) (T:Lt),T.size≤z→∀(ia:Option Addr) (ic:Nat) (W:World),T.strip.exB=true→(∀u∈T.strip.uses f,0≤len u∧len u≤4097)→QL s f B KB M SB PB len (T.strip.uses f)→(T.len=0∨ia=some ⟨blk ia,off ia,none⟩)→T.len≤maxLen→T.At W (blk ia) (off ia)→NumAt f W (T.refsL (blk ia) (off ia))→LenW W s f B KB M SB PB len→Calls Tryd.prog 64 #[.slice ia T.len ic,.pointer (some ⟨SB,0,none⟩),.pointer (some ⟨PB,0,none⟩)] W (JI s f B KB M SB PB len (T.strip.sumF f len 0) W):=by
 intro z
 induction z with
 | zero=>intro T hs;exact Ln s f B KB M SB PB len T (λT' hA=>absurd hA (by omega))
 | succ z ih=>intro T hs;exact Ln s f B KB M SB PB len T (λT' hA=>ih T' (by omega))
theorem Tz{kvs:List (Int×Value)}{k:Int}{x0:Value}(h:Ap kvs k=some x0)(v:Value):Ap (Bh kvs k v) k=some v:=by
 unfold Bh;rw [h];simp only [Option.isSome_some,if_true];unfold Ap at h ⊢;rw [List.find?_map]
 have e:((λp=>decide (p.1=k)) ∘ λp=>if p.1=k then (p.1,v) else p)=λp:Int×Value=>decide (p.1=k):=by
  funext p;simp only [Function.comp];split<;>rfl
 rw [e]
 cases hf:kvs.find? (λp=>decide (p.1=k)) with
 | none=>rw [hf] at h;cases h
 | some p =>
  have hp:=List.find?_some hf;have hA:p.1=k:=by simpa using hp
  simp only [Option.map_some,if_pos hA]
theorem FarM.set{W:World}{F:Nat}{g:Int→Option Int}(h:FarM W F g)(k v:Int) :
  ∃W',(Instr.mapUpdate 148 (.map (some F)) (int i64 k) (int i64 v)).run Tryd.prog W=.ok () W'∧FarM W' F (GC g k v)∧W.grownBy W' (some F):=by
 obtain ⟨kvs,h1,h2,h3⟩:=h;obtain ⟨o,hA,hM⟩:=AA (P:=Tryd.prog) B5 Tryd.underlying148 Tryd.underlying3 h1 h2 k (int i64 v);refine ⟨_,hA,⟨_,hM,AI h2 k _,λx=>?_⟩,Ev W F o⟩;unfold GC;by_cases hx:x=k
 ·subst hx
  rw [if_pos rfl]
  cases hg:Ap kvs x with
  | none=>rw [D7 hg];rfl
  | some y=>rw [Tz hg];rfl
 ·rw [if_neg hx,← h3 x]
  cases hg:Ap kvs x with
  | none=>exact DA hg (λe=>hx e.symm) _
  | some y=>exact FU hg (λe=>hx e.symm) _
theorem LenW.grown{W V:World}{s:Ls}{f:Nm→Int}{B KB M SB PB:Nat}{len:Int→Int}{g:Int→Option Int}(h:LenW W s f B KB M SB PB len)(hg:W.grownBy V (some M))(hf:FarM V M g)(hk:∀x v,g x=some v→v=len x):LenW V s f B KB M SB PB len:=by
 obtain ⟨w0,a1,a2,a3⟩:=h.sc;exact ⟨⟨w0,a1,a2.grown hg a2.size (λk hk=>by cases hk;exact a3),a3⟩,Ck h.kb h.isMap hg,Ck h.sb h.isMap hg,Ck h.pb h.isMap hg,⟨g,hf,hk⟩⟩
theorem LenW.set{W:World}{s:Ls}{f:Nm→Int}{B KB M SB PB:Nat}{len:Int→Int}(h:LenW W s f B KB M SB PB len)(j v:Int)(hv:len j=v) :
  ∃W',(Instr.mapUpdate 148 (.map (some M)) (int i64 j) (int i64 v)).run Tryd.prog W=.ok () W'∧LenW W' s f B KB M SB PB len∧W.grownBy W' (some M):=by
 obtain ⟨g,h1,h2⟩:=h.known;obtain ⟨W',r1,r2,r3⟩:=h1.set j v;refine ⟨W',r1,h.grown r3 r2 (λx y hA=>?_),r3⟩;unfold GC at hA
 split at hA
 ·rename_i e;subst e;cases hA;exact hv.symm
 ·exact h2 x y hA
theorem Nb(s:Ls)(f:Nm→Int)(B KB M SB PB:Nat)(len:Int→Int)(j:Nat)(p:Ph)(hp:s.phrases[j]?=some p)(_hj:j≤1000)(_hpl:s.phrases.length≤1000)(hx:p.its.strip.exB=true)(hu:∀u∈p.its.strip.uses f,0≤len u∧len u≤4097)(hP:QL s f B KB M SB PB len (p.its.strip.uses f))(hA:len j=p.its.strip.sumF f len 0)
  (W:World) (hL:LenW W s f B KB M SB PB len):Calls Tryd.prog 65 #[int i64 j,.pointer (some ⟨KB,0,none⟩),.pointer (some ⟨SB,0,none⟩),.pointer (some ⟨B,0,none⟩)] W (JI s f B KB M SB PB len (len j) W):=by
 obtain ⟨g,hF,hE⟩:=hL.known;have hI:=hF.lookup j;have y1:=Aa hL.kb 0 rfl
 cases hB:g j with
 | some v =>
  have hv:=hE _ _ hB;rw [hB] at hI;have HV:=qh hv;have HL:=qh hL;clear hp hx hu hP hA hL hF hE hB hv;go_enter Tryd.func65,Tryd.ntmps65;go_wp2_with fail;go_ret;exact ⟨by rw [← HV.out];rfl,HL.out,World.grownBy.refl _ _⟩
 | none =>
  rw [hB] at hI;have ys:=Aa hL.sb 0 rfl;have yb:W.cell? ⟨B,10,none⟩=some (.slice s.fa s.phrases.length s.fc):=Aa hL.score.box 10 rfl;obtain ⟨c0,c1⟩:=Cz hL.score.at_.phrases hp;obtain ⟨i1,i2,i3⟩:=Dp hL.score.at_.phrases hp;have hC:NumAt f W (p.its.refsL (blk p.ia) (off p.ia)):=λx hx=>hL.score.nums x (CJ hp hx)
  have hO:=hL.score.at_.pform.resolve_left (λe=>by rw [e] at hp;cases hp);have hQ:j<s.phrases.length:=(ql.1 hp).1;unfold Ph.val at c1;have C:=Sm s f B KB M SB PB len _ p.its (qn _) p.ia p.ic W.drew hx hu hP i1 i2 (i3.below (Ce W _)) (hC.below (Ce W _)) (hL.below (Ce W _));rw [← hA] at C;have HC:=qh C;have HL:=qh hL;have hR:Hid (W.grownBy W.drew (some M)):=qh (Dx (Ce W _));obtain ⟨lj,hD⟩:∃lj,len j=lj:=⟨_,rfl⟩;rw [hD] at HC;have hT:=qh hD;have hd:(j:Int)<(s.phrases.length:Int):=by omega
  have hU:Hid (∀V,W.drew.grownBy V (some M)→V.cell? ⟨KB,0,none⟩=some (.map (some M))):=qh (λV hg=>Aa (Ck (w:=W.drew) hL.kb hL.isMap hg) 0 rfl);clear hp hx hu hP hL hF hE hB C i1 i2 i3 hC hQ hA c0;generalize s.phrases.length=n at *;generalize hJ:s.fa=fa at *;have he:=qh hJ;clear hJ;generalize hW:blk fa=fb at *;generalize hX:off fa=fo at *;subst hO;clear hW hX;have hG:=λV (hV:LenW V s f B KB M SB PB len)=>hV.set j lj hD
  have hY:=qh hG;clear hG hD;go_enter Tryd.func65,Tryd.ntmps65;go_wp2_with fail;refine AU (λw2=>w2=W.drew) 7 (by kernel_rfl) (by kernel_rfl) rfl ?_;intro w2 hS;subst hS;simp only [List.take_succ_cons,List.take_zero,List.drop_succ_cons,List.drop_zero]
  repeat still_step
  refine wpStill_nil ?_
  go_wp2_with (go_at_call 64;refine HC.out.mono ?_;rintro e V ⟨rfl,hK,hH⟩;have hZ:=qh hK;have ha:=qh hH;have yk:=hU.out V hH;clear hK hH;obtain ⟨V',hG,hM,hN⟩:=hY.out V hZ.out;have hb:=qh hM;have hc:=qh hN;clear hM hN);go_ret;exact ⟨by rw [hT.out];rfl,hb.out,BB hR.out (BB ha.out hc.out)⟩
structure LenOk(ps:List Ph)(f:Nm→Int)(rk:Nat→Nat)(len:Int→Int):Prop where
 ex:∀(j:Nat) (p:Ph),ps[j]?=some p→p.its.strip.exB=true
 fix:∀(j:Nat) (p:Ph),ps[j]?=some p→len j=p.its.strip.sumF f len 0
 bound:∀j:Nat,j<ps.length→0≤len j∧len j≤4097
 down:∀(j:Nat) (p:Ph),ps[j]?=some p→∀u∈p.its.strip.uses f,∃i:Nat,u=i∧i<ps.length∧rk i<rk j
theorem RN(s:Ls)(f:Nm→Int)(B KB M SB PB:Nat)(rk:Nat→Nat)(len:Int→Int)(h:LenOk s.phrases f rk len)(hA:s.phrases.length≤1000):∀(z j:Nat),rk j≤z→j<s.phrases.length→∀W,LenW W s f B KB M SB PB len→Calls Tryd.prog 65 #[int i64 j,.pointer (some ⟨KB,0,none⟩),.pointer (some ⟨SB,0,none⟩),.pointer (some ⟨B,0,none⟩)] W (JI s f B KB M SB PB len (len j) W):=by
 intro z
 induction z with
 | zero =>
  intro j hz hj W hL;obtain ⟨p,hp⟩:∃p,s.phrases[j]?=some p:=⟨_,qg hj⟩;exact Nb s f B KB M SB PB len j p hp (by omega) hA (h.ex j p hp) (λu hu=>by obtain ⟨i,rfl,hi,_⟩:=h.down j p hp u hu;exact h.bound i hi) (λu hu=>by obtain ⟨i,_,_,hr⟩:=h.down j p hp u hu;omega) (h.fix j p hp) W hL
 | succ z ih =>
  intro j hz hj W hL;obtain ⟨p,hp⟩:∃p,s.phrases[j]?=some p:=⟨_,qg hj⟩;exact Nb s f B KB M SB PB len j p hp (by omega) hA (h.ex j p hp) (λu hu=>by obtain ⟨i,rfl,hi,_⟩:=h.down j p hp u hu;exact h.bound i hi) (λu hu V hV=>by obtain ⟨i,rfl,hi,hr⟩:=h.down j p hp u hu;exact ih i (by omega) hi V hV) (h.fix j p hp) W hL
theorem Et(W:World)(b:Nat)(fn:Fn)(f c:Array Value)(x:Value)(hx:W.cell? ⟨b,0,none⟩=some x)(hf:W.frozen? ⟨b,0,none⟩=false):(store ⟨b,0,none⟩ (.func fn f c)).run Tryd.prog W=.ok () (W.setCell ⟨b,0,none⟩ (.func fn f c)):=by
 rw [run_store _ W _ _ _ rfl];simp [hx,hf]
def Vt(s:Ls)(f:Nm→Int)(len:Int→Int)(w:World)(e:Ending)(w':World):Prop:=∃B KB M SB PB,e=.returned (.func (.func 65) #[] #[.pointer (some ⟨KB,0,none⟩),.pointer (some ⟨SB,0,none⟩),.pointer (some ⟨B,0,none⟩)])∧LenW w' s f B KB M SB PB len∧w.heap.size≤M∧Below w.heap.size w w'
theorem KS(s:Ls)(f:Nm→Int)(len:Int→Int)(w:World)(hA:s.At w)(hU:NumAt f w (Aw s.phrases)):Calls Tryd.prog 46 #[s.val] w (Vt s f len w):=by
 obtain ⟨W0,hH,gB,b0,s0⟩:=Af w s.cells 55;have hS:RgS s f w.heap.size W0:=⟨hA.below b0,gB,hU.below b0⟩;have hJ:=@run_makeMap Tryd.prog;obtain ⟨W1,hD⟩:∃W1,W0.alloc (.map #[] 0)=W1:=⟨_,rfl⟩;obtain ⟨W2,hK,gK,b2,s2⟩:=Af W1 #[.map (some W0.heap.size)] 148;obtain ⟨W3,hL,gP,b3,s3⟩:=Af W2 #[.nilFunc] 119;obtain ⟨W4,hM,gS,b4,s4⟩:=Af W3 #[.nilFunc] 126;have b1:Below W0.heap.size W0 W1:=by rw [← hD];exact (Below.refl _ _).alloc (qn _) _
 have s1:W1.heap.size=W0.heap.size+1:=by rw [← hD];simp
 obtain ⟨W5,hB⟩:∃W5,W4.setCell ⟨W3.heap.size,0,none⟩ (.func (.func 64) #[] #[.pointer (some ⟨W3.heap.size,0,none⟩),.pointer (some ⟨W2.heap.size,0,none⟩)])=W5:=⟨_,rfl⟩;obtain ⟨W6,hC⟩:∃W6,W5.setCell ⟨W2.heap.size,0,none⟩ (.func (.func 65) #[] #[.pointer (some ⟨W1.heap.size,0,none⟩),.pointer (some ⟨W3.heap.size,0,none⟩),.pointer (some ⟨w.heap.size,0,none⟩)])=W6:=⟨_,rfl⟩;have gP4:=Ah b4 gP;have gP5:W5.heap[W2.heap.size]?=some (.cells #[.nilFunc] 119 (0,0)):=by rw [← hB,Bd _ (by omega)];exact gP4
 have gS5:W5.heap[W3.heap.size]?=some (.cells #[(.func (.func 64) #[] #[.pointer (some ⟨W3.heap.size,0,none⟩),.pointer (some ⟨W2.heap.size,0,none⟩)])] 126 (0,0)):=by rw [← hB,D6 _ gS];rfl
 have gP6:W6.heap[W2.heap.size]?=some (.cells #[(.func (.func 65) #[] #[.pointer (some ⟨W1.heap.size,0,none⟩),.pointer (some ⟨W3.heap.size,0,none⟩),.pointer (some ⟨w.heap.size,0,none⟩)])] 119 (0,0)):=by rw [← hC,D6 _ gP5];rfl
 have gS6:W6.heap[W3.heap.size]?=some (.cells #[(.func (.func 64) #[] #[.pointer (some ⟨W3.heap.size,0,none⟩),.pointer (some ⟨W2.heap.size,0,none⟩)])] 126 (0,0)):=by rw [← hC,Bd _ (by omega)];exact gS5
 have gK4:=Ah b4 (Ah b3 gK);have gK6:W6.heap[W1.heap.size]?=some (.cells #[.map (some W0.heap.size)] 148 (0,0)):=by rw [← hC,Bd _ (by omega),← hB,Bd _ (by omega)];exact gK4
 have hM1:FarM W1 W0.heap.size (λ_=>none):=by rw [← hD];exact FarM.new W0
 have b14:=Ag b2 (Ag b3 b4);have hE:=hM1.of_block (b14.block W0.heap.size hM1.lt);have hF:FarM W6 W0.heap.size (λ_=>none):=hE.of_block (by rw [← hC,Bd _ (by omega),← hB,Bd _ (by omega)]);have b04:=Ag b1 b14
 have b06:Below W0.heap.size W0 W6:=by
  rw [← hC,← hB];exact (b04.setCell (p:=⟨W3.heap.size,0,none⟩) (by show W0.heap.size≤W3.heap.size;omega) _).setCell (p:=⟨W2.heap.size,0,none⟩) (by show W0.heap.size≤W2.heap.size;omega) _
 have hG:LenW W6 s f w.heap.size W1.heap.size W0.heap.size W3.heap.size W2.heap.size len :=
  ⟨⟨W0,hS,b06,qn _⟩,gK6,gS6,gP6,⟨_,hF,λx v h=>by cases h⟩⟩
 have x4:W4.cell? ⟨W3.heap.size,0,none⟩=some .nilFunc:=Aa gS 0 rfl;have f4:W4.frozen? ⟨W3.heap.size,0,none⟩=false:=(show FreeB W4 W3.heap.size from ⟨_,_,gS⟩).free 0;have x5:W5.cell? ⟨W2.heap.size,0,none⟩=some .nilFunc:=Aa gP5 0 rfl;have f5:W5.frozen? ⟨W2.heap.size,0,none⟩=false:=(show FreeB W5 W2.heap.size from ⟨_,_,gP5⟩).free 0;have st5:=Et W4 W3.heap.size (.func 64) #[] #[.pointer (some ⟨W3.heap.size,0,none⟩),.pointer (some ⟨W2.heap.size,0,none⟩)] _ x4 f4;have st6:=Et W5 W2.heap.size (.func 65) #[] #[.pointer (some ⟨W1.heap.size,0,none⟩),.pointer (some ⟨W3.heap.size,0,none⟩),.pointer (some ⟨w.heap.size,0,none⟩)] _ x5 f5;rw [hB] at st5;rw [hC] at st6;have x6:W6.cell? ⟨W2.heap.size,0,none⟩=some (.func (.func 65) #[] #[.pointer (some ⟨W1.heap.size,0,none⟩),.pointer (some ⟨W3.heap.size,0,none⟩),.pointer (some ⟨w.heap.size,0,none⟩)]):=Aa gP6 0 rfl;have hv:s.val=.agg s.cells:=rfl;rw [hv];have HL:=qh hG;have HB:=qh (Ag b0 b06);have hI:Hid (w.heap.size≤W0.heap.size):=qh (by omega);unfold Ls.cells at hH ⊢;clear hG hF hE hM1 b14 b04 b06 gK6 gK4 gS6 gP6 gS5 gP5 gP4 s0 s1 s2 s3 s4 b0 b1 b2 b3 b4 hS gB gK gP gS hA hU hv;go_enter Tryd.func46,Tryd.ntmps46;go_wp2_with fail;go_ret;exact ⟨_,_,_,_,_,rfl,HL.out,hI.out,HB.out⟩
end
section
open Go
def SW(g g':Int→Option Int)(nn:Int):Prop:=∀x,g' x=g x∨(g x=none∧g' x=some nn)
theorem Py{g g':Int→Option Int}{nn i:Int}(h:SW g g' nn)(to:Int):Ee i nn g' to=Ee i nn g to:=by
 unfold Ee
 congr 2
 rcases h to with e|⟨e1,e2⟩
 ·rw [e]
 ·rw [e1,e2]
  have h1:¬(some nn=some (nn-1)):=by simp only [Option.some.injEq];omega
  have h2:¬((none:Option Int)=some (nn-1)):=by simp
  rw [decide_eq_false h1,decide_eq_false h2]
theorem NL{g g':Int→Option Int}{nn i:Int}(h:SW g g' nn)(ks:List Int):Dn ks i nn g'=Dn ks i nn g:=by
 unfold Dn
 congr 1
 funext to
 exact Py h to
theorem Jc(kss:List (List Int))(i nn:Int)(g:Int→Option Int):∀j,SW g (EI kss i nn g j) nn
 | 0=>λx=>Or.inl rfl
 | j+1=>λx=>by
  have ih:=Jc kss i nn g j;unfold EI EX
  split
  ·exact ih x
  ·split
   ·rename_i h1 _
    unfold GC
    split
    ·rename_i hx
     subst hx;rcases ih j with e|⟨e1,e2⟩
     ·right
      refine ⟨?_,rfl⟩;rw [← e]
      cases h2:EI kss i nn g j j with
      | none=>rfl
      | some v=>rw [h2] at h1;simp at h1
     ·rw [e2] at h1;simp at h1
    ·exact ih x
   ·exact ih x
theorem GK(kss:List (List Int))(i nn:Int)(g:Int→Option Int):∀(j:Nat) (x:Int),EI kss i nn g j x=if (g x).isSome=true then g x else if 0≤x∧x<j∧Dn (kss.getD x.toNat []) i nn g=true then some nn else none
 | 0,x=>by
  unfold EI
  cases h:g x with
  | some v=>simp
  | none =>
   have:¬(0≤x∧x<((0:Nat):Int)∧Dn (kss.getD x.toNat []) i nn g=true):=by rintro ⟨h1,h2,_⟩;omega
   rw [if_neg this];simp
 | j+1,x=>by
  have ih:=GK kss i nn g j;have hn:=Jc kss i nn g j;unfold EI EX;by_cases hx:x=(j:Int)
  ·subst hx
   have ihj:=ih j;have hA:¬((j:Int)<(j:Nat)):=by omega
   split
   ·rename_i h1
    rw [ihj] at h1 ⊢
    split
    ·rfl
    ·rename_i h2
     rw [if_neg h2,if_neg (λh=>hA h.2.1)] at h1;simp at h1
   ·rename_i h1
    have hB:(g j).isSome=false:=by
     cases h2:(g j).isSome with
     | false=>rfl
     | true=>rw [ihj,if_pos h2,h2] at h1;simp at h1
    rw [NL hn,hB];simp only [Bool.false_eq_true,if_false]
    have e:(0≤(j:Int)∧(j:Int)<((j+1:Nat):Int)∧Dn (kss.getD (j:Int).toNat []) i nn g=true)↔Dn (kss.getD j []) i nn g=true:=by
     rw [Int.toNat_natCast];exact ⟨λh=>h.2.2,λh=>⟨by omega,by omega,h⟩⟩
    split
    ·rename_i h3
     rw [if_pos (e.2 h3)];unfold GC;simp
    ·rename_i h3
     rw [ihj,hB];simp only [Bool.false_eq_true,if_false];rw [if_neg (λh=>hA h.2.1),if_neg (λh=>h3 (e.1 h))]
  ·have e:(0≤x∧x<((j+1:Nat):Int)∧Dn (kss.getD x.toNat []) i nn g=true)↔(0≤x∧x<((j:Nat):Int)∧Dn (kss.getD x.toNat []) i nn g=true) :=
    ⟨λh=>⟨h.1,by have:=h.2.1;omega,h.2.2⟩,λh=>⟨h.1,by have:=h.2.1;omega,h.2.2⟩⟩
   have e2:EI kss i nn g j x=if (g x).isSome=true then g x else if 0≤x∧x<((j+1:Nat):Int)∧Dn (kss.getD x.toNat []) i nn g=true then some nn else none:=by
    rw [ih x];simp only [e]
   split
   ·exact e2
   ·split
    ·unfold GC
     rw [if_neg hx];exact e2
    ·exact e2
section
variable {kss:List (List Int)} {i:Int}
theorem ED{m:Nat}{x v:Int}(h:AY kss i m x=some v):AY kss i (m+1) x=some v:=by
 unfold AY;rw [GK,h]
 rfl
theorem Me{x v:Int}{m k:Nat}(hk:m≤k)(h:AY kss i m x=some v):AY kss i k x=some v:=by
 induction k with
 | zero=>rw [show (0:Nat)=m by omega];exact h
 | succ k ih =>
  rcases Nat.lt_or_ge m (k+1) with h1|h1
  ·exact ED (ih (by omega))
  ·rw [show k+1=m by omega];exact h
theorem Fr{m:Nat}{x v:Int}(h:AY kss i (m+1) x=some v):AY kss i m x=some v∨(AY kss i m x=none∧v=(m+1:Nat)∧0≤x∧x<kss.length∧Dn (kss.getD x.toNat []) i (m+1:Nat) (AY kss i m)=true):=by
 unfold AY at h;rw [GK] at h
 cases hg:AY kss i m x with
 | some u=>rw [hg] at h;left;simpa using h
 | none =>
  rw [hg] at h;simp only [Option.isSome_none,Bool.false_eq_true,if_false] at h
  split at h
  ·rename_i hc
   right
   cases h;exact ⟨rfl,rfl,hc⟩
  ·cases h
theorem Rb{m:Nat}{x v:Int}:AY kss i m x=some v→0≤x∧x<kss.length:=by
 induction m with
 | zero=>intro h;cases h
 | succ m ih =>
  intro h;rcases Fr h with h|⟨_,_,h1,h2,_⟩
  ·exact ih h
  ·exact ⟨h1,h2⟩
theorem Ps{m:Nat}{x:Int}(h0:0≤x)(h1:x<kss.length)(h:Dn (kss.getD x.toNat []) i (m+1:Nat) (AY kss i m)=true):(AY kss i (m+1) x).isSome=true:=by
 unfold AY;rw [GK]
 cases hg:AY kss i m x with
 | some u=>rfl
 | none =>
  simp only [Option.isSome_none,Bool.false_eq_true,if_false];rw [if_pos ⟨h0,h1,h⟩]
  rfl
def Lv(kss:List (List Int))(i:Int)(m:Nat):Prop:=∃x,AY kss i m x=some (m:Int)
theorem Lv.down{m:Nat}(hm:1≤m)(h:Lv kss i (m+1)):Lv kss i m:=by
 obtain ⟨x,hx⟩:=h;rcases Fr hx with h|⟨_,_,_,_,h⟩
 ·have:=Ek h;omega
 ·unfold Dn at h
  rw [List.any_eq_true] at h;obtain ⟨to,_,hA⟩:=h;unfold Ee at hA;rw [Bool.or_eq_true,Bool.and_eq_true,Bool.and_eq_true] at hA;rcases hA with ⟨h1,_⟩|⟨_,h2⟩
  ·have:=of_decide_eq_true h1;omega
  ·have:=of_decide_eq_true h2
   exact ⟨to,by rw [this];congr 1;omega⟩
def cnt(kss:List (List Int))(i:Int)(m:Nat):Nat:=((List.range kss.length).filter λx:Nat=>(AY kss i m x).isSome).length
theorem Te(m:Nat):cnt kss i m≤kss.length:=by
 unfold cnt;exact Nat.le_trans (List.length_filter_le _ _) (by simp)
theorem Lv.count:∀{m:Nat},Lv kss i m→m≤cnt kss i m
 | 0,_=>Nat.zero_le _
 | m+1,h=>by
  have hm:m≤cnt kss i m:=by
   rcases Nat.eq_zero_or_pos m with e|e
   ·omega
   ·exact Lv.count (h.down e)
  obtain ⟨x,hx⟩:=h;obtain ⟨h0,h1⟩:=Rb hx;obtain ⟨a,rfl⟩:∃a:Nat,x=a:=⟨x.toNat,by omega⟩
  have hA:(AY kss i m a).isSome=false:=by
   cases hg:AY kss i m a with
   | none=>rfl
   | some u =>
    have:=Ek hg;rw [ED hg] at hx;cases hx;omega
  have:=filter_lt (λx:Nat=>(AY kss i (m+1) x).isSome) (λx:Nat=>(AY kss i m x).isSome) (λy hy=>by
   cases hg:AY kss i m y with
   | none=>rw [hg] at hy;cases hy
   | some u=>rw [ED hg];rfl) a (by rw [hx];rfl) hA (List.range kss.length) (by simp;omega)
  unfold cnt at hm ⊢;omega
theorem Pt(x:Int):AY kss i (kss.length+1) x=AY kss i kss.length x:=by
 cases h:AY kss i (kss.length+1) x with
 | none =>
  cases h2:AY kss i kss.length x with
  | none=>rfl
  | some v=>rw [ED h2] at h;cases h
 | some v =>
  rcases Fr h with h2|⟨_,hv,_⟩
  ·exact h2.symm
  ·exfalso
   have hl:Lv kss i (kss.length+1):=⟨x,by rw [h,hv]⟩;have:=hl.count;have:=Te (kss:=kss) (i:=i) (kss.length+1);omega
theorem KN{x u:Int}(h0:0≤x)(h1:x<kss.length)(hu:u∈kss.getD x.toNat [])(h:u=i∨(AY kss i kss.length u).isSome=true):(AY kss i kss.length x).isSome=true:=by
 have key:∀m:Nat,m≤kss.length→Dn (kss.getD x.toNat []) i (m+1:Nat) (AY kss i m)=true→(AY kss i kss.length x).isSome=true:=by
  intro m hm hh;have h2:=Ps h0 h1 hh;rw [← Pt]
  cases hg:AY kss i (m+1) x with
  | none=>rw [hg] at h2;cases h2
  | some v=>rw [Me (by omega) hg];rfl
 rcases h with rfl|h
 ·refine key 0 (Nat.zero_le _) ?_
  unfold Dn;rw [List.any_eq_true];exact ⟨u,hu,by unfold Ee;simp⟩
 ·cases hg:AY kss i kss.length u with
  | none=>rw [hg] at h;cases h
  | some v =>
   obtain ⟨hA,hB⟩:=Ek hg;obtain ⟨d,rfl⟩:∃d:Nat,v=d:=⟨v.toNat,by omega⟩
   have hd:AY kss i d u=some (d:Int):=by
    have:∀k:Nat,AY kss i k u=some (d:Int)→d≤k→AY kss i d u=some (d:Int):=by
     intro k
     induction k with
     | zero=>intro h;cases h
     | succ k ih =>
      intro h hk;rcases Nat.lt_or_ge d (k+1) with h3|h3
      ·rcases Fr h with h4|⟨_,h4,_⟩
       ·exact ih h4 (by omega)
       ·omega
      ·rw [show d=k+1 by omega] at h ⊢;exact h
    exact this _ hg (by omega)
   refine key d (by omega) ?_;unfold Dn;rw [List.any_eq_true];refine ⟨u,hu,?_⟩;unfold Ee;rw [hd];have e1:decide (1<((d+1:Nat):Int))=true:=decide_eq_true (by omega);have e2:decide ((some (d:Int))=some (((d+1:Nat):Int)-1))=true:=decide_eq_true (by congr 1;omega);rw [e1,e2];simp
end
def CE(kss:List (List Int))(j:Nat):Nat:=((List.range kss.length).filter λi:Nat=>(AY kss i kss.length j).isSome).length
theorem Jo{kss:List (List Int)}(h:BK kss=[]){i:Nat}(hi:i<kss.length):AY kss i kss.length i=none:=by
 unfold BK at h
 split at h
 ·rename_i hf
  rw [List.find?_eq_none] at hf;have:=hf i (by simpa using hi);unfold DK at this
  cases hg:AY kss i kss.length i with
  | none=>rfl
  | some v=>rw [hg] at this;simp at this
 ·cases h
theorem Oc{kss:List (List Int)}(h:BK kss=[]){j u:Nat}(hj:j<kss.length)(hu:u<kss.length)(hm:(u:Int)∈kss.getD j []):CE kss u<CE kss j:=by
 unfold CE;refine filter_lt (λi:Nat=>(AY kss i kss.length j).isSome) (λi:Nat=>(AY kss i kss.length u).isSome) (λi hi=>?_) u ?_ ?_ _ (by simpa using hu)
 ·exact KN (by omega) (by omega) (by rw [Int.toNat_natCast];exact hm) (Or.inr hi)
 ·exact KN (by omega) (by omega) (by rw [Int.toNat_natCast];exact hm) (Or.inl rfl)
 ·show (AY kss u kss.length u).isSome=false
  rw [Jo h hu];rfl
theorem Nf{kss:List (List Int)}(h:BK kss=[]){j:Nat}(hj:j<kss.length):CE kss j<kss.length:=by
 unfold CE;have:=filter_lt (λ_:Nat=>true) (λi:Nat=>(AY kss i kss.length j).isSome) (λ_ _=>rfl) j rfl (by rw [Jo h hj];rfl) (List.range kss.length) (by simpa using hj);have e:(List.range kss.length).filter (λ_:Nat=>true)=List.range kss.length:=List.filter_eq_self.2 (λ_ _=>rfl);rw [e,List.length_range] at this;exact this
end
section
open Go
theorem KW(x:Int):∀(us ks:List Int),x∈us.foldl Be ks↔x∈ks∨x∈us
 | [],ks=>by simp
 | u::us,ks=>by
  rw [List.foldl_cons,KW x us,MF];simp only [List.mem_cons]
  constructor
  ·rintro ((h|h)|h)
   ·exact Or.inl h
   ·exact Or.inr (Or.inl h)
   ·exact Or.inr (Or.inr h)
  ·rintro (h|h|h)
   ·exact Or.inl (Or.inl h)
   ·exact Or.inl (Or.inr h)
   ·exact Or.inr h
theorem Its.sumF_congr(f:Nm→Int)(F G:Int→Int):∀(T:Its) (n:Int),(∀u∈T.uses f,F u=G u)→T.sumF f F n=T.sumF f G n
 | .nil,_,_=>rfl
 | .cons k nn un its ms r,n,h=>by
  unfold Its.sumF;rw [its.sumF_congr f F G 0 (λu hu=>h u (by simp [Its.uses,hu]))]
  have e:(if k=4 then F (f un) else 0)=if k=4 then G (f un) else 0:=by
   split
   ·rename_i hk
    exact h (f un) (by simp [Its.uses,hk])
   ·rfl
  rw [e];exact r.sumF_congr f F G _ (λu hu=>h u (by simp [Its.uses,hu]))
def Ig(L:List Its)(f:Nm→Int):Nat→Int→Int
 | 0,_=>0
 | d+1,k=>if 0≤k then (match L[k.toNat]? with
  | some t=>t.sumF f (Ig L f d) 0
  | none=>0) else 0
def E1(L:List Its)(f:Nm→Int):Int→Int:=Ig L f L.length
theorem Fv{L:List Its}{f:Nm→Int}{d j:Nat}{t:Its}(h:L[j]?=some t):Ig L f (d+1) j=t.sumF f (Ig L f d) 0:=by
 unfold Ig;rw [if_pos (by omega),Int.toNat_natCast,h]
theorem NX{L:List Its}{f:Nm→Int}{rk:Nat→Nat}(hd:∀(j:Nat) (t:Its),L[j]?=some t→∀u∈t.uses f,∃i:Nat,u=i∧i<L.length∧rk i<rk j):∀(z j d d':Nat),rk j≤z→rk j<d→rk j<d'→j<L.length→Ig L f d j=Ig L f d' j:=by
 intro z
 induction z with
 | zero =>
  intro j d d' hz h1 h2 hj;obtain ⟨t,ht⟩:∃t,L[j]?=some t:=⟨_,qg hj⟩;obtain ⟨d,rfl⟩:∃e,d=e+1:=⟨d-1,by omega⟩;obtain ⟨d',rfl⟩:∃e,d'=e+1:=⟨d'-1,by omega⟩;rw [Fv ht,Fv ht];exact t.sumF_congr f _ _ 0 (λu hu=>by obtain ⟨i,rfl,hi,hr⟩:=hd j t ht u hu;omega)
 | succ z ih =>
  intro j d d' hz h1 h2 hj;obtain ⟨t,ht⟩:∃t,L[j]?=some t:=⟨_,qg hj⟩;obtain ⟨d,rfl⟩:∃e,d=e+1:=⟨d-1,by omega⟩;obtain ⟨d',rfl⟩:∃e,d'=e+1:=⟨d'-1,by omega⟩;rw [Fv ht,Fv ht]
  exact t.sumF_congr f _ _ 0 (λu hu=>by
   obtain ⟨i,rfl,hi,hr⟩:=hd j t ht u hu
   exact ih i d d' (by omega) (by omega) (by omega) hi)
theorem Ih{L:List Its}{f:Nm→Int}(hx:∀t∈L,t.exB=true):∀(d:Nat) (k:Int),0≤Ig L f d k∧Ig L f d k≤4097
 | 0,_=>by unfold Ig;omega
 | d+1,k=>by
  unfold Ig
  split
  ·cases h:L[k.toNat]? with
   | none=>simp
   | some t=>exact t.sumF_bound f _ 0 (hx t (List.mem_of_getElem? h)) (λu _=>Ih hx d u) (by omega) (by omega)
  ·omega
def Ls.itsL(s:Ls):List Its:=s.phrases.map λp=>p.its.strip
def OR(L:List Its)(f:Nm→Int):Prop:=∀t∈L,∀u∈t.uses f,∃i:Nat,u=i∧i<L.length
theorem O6{s:Ls}{f:Nm→Int}{j:Nat}{p:Ph}(h:s.phrases[j]?=some p):(s.nexts f).getD j []=(p.its.strip.uses f).foldl Be []:=by
 unfold Ls.nexts;rw [List.getD_eq_getElem?_getD,List.getElem?_map,h];rfl
theorem Ml{s:Ls}{f:Nm→Int}(hx:s.phrases.all (λp=>p.its.strip.exB)=true)(hr:BK (s.nexts f)=[])(hu:OR s.itsL f):LenOk s.phrases f (CE (s.nexts f)) (E1 s.itsL f):=by
 have hD:∀p∈s.phrases,p.its.strip.exB=true:=List.all_eq_true.1 hx
 have hC:∀t∈s.itsL,t.exB=true:=λt ht=>by
  obtain ⟨p,hp,rfl⟩:=List.mem_map.1 ht;exact hD p hp
 have hl:s.itsL.length=s.phrases.length:=by simp [Ls.itsL]
 have hk:(s.nexts f).length=s.phrases.length:=by simp [Ls.nexts]
 have hB:∀(j:Nat) (p:Ph),s.phrases[j]?=some p→s.itsL[j]?=some p.its.strip:=λj p h=>by unfold Ls.itsL;rw [List.getElem?_map,h];rfl
 have hA:∀(j:Nat) (p:Ph),s.phrases[j]?=some p→∀u∈p.its.strip.uses f,∃i:Nat,u=i∧i<s.phrases.length∧CE (s.nexts f) i<CE (s.nexts f) j:=λj p h u hm=>by
  obtain ⟨i,rfl,hi⟩:=hu _ (List.mem_of_getElem? (hB j p h)) u hm;rw [hl] at hi;have hj:=(ql.1 h).1;refine ⟨i,rfl,hi,Oc hr (by rw [hk];exact hj) (by rw [hk];exact hi) ?_⟩;rw [O6 h,KW];exact Or.inr hm
 have hE:∀(j:Nat) (t:Its),s.itsL[j]?=some t→∀u∈t.uses f,∃i:Nat,u=i∧i<s.itsL.length∧CE (s.nexts f) i<CE (s.nexts f) j:=λj t h u hm=>by
  have hj:=(ql.1 h).1;obtain ⟨p,hp⟩:∃p,s.phrases[j]?=some p:=⟨_,qg (by rw [← hl];exact hj)⟩;have:=hB j p hp;rw [h] at this;cases this;rw [hl];exact hA j p hp u hm
 refine ⟨λj p h=>hD p (List.mem_of_getElem? h),λj p h=>?_,λj _=>Ih hC _ _,hA⟩;have hj:=(ql.1 h).1
 have hF:∀i,i<s.phrases.length→CE (s.nexts f) i<s.phrases.length:=λi hi=>by
  have:=Nf hr (j:=i) (by rw [hk];exact hi)
  rwa [hk] at this
 unfold E1;obtain ⟨e,he⟩:∃e,s.itsL.length=e+1:=⟨s.itsL.length-1,by omega⟩;rw [he,Fv (hB j p h)];refine Its.sumF_congr f _ _ _ 0 (λu hm=>?_);obtain ⟨i,rfl,hi,hG⟩:=hA j p h u hm;have:=hF j hj;exact NX hE _ i e (e+1) (qn _) (by omega) (by omega) (by omega)
structure BarR where
 ma:Option Addr
 mc:Nat
 ms:List Mov
 mir:Bool
def AH(b:Bool)(l:List BarR):List BarR:=l.map λx=>{ x with mir:=x.mir ^^ b }
theorem Mg(a b:Bool)(l:List BarR):AH b (AH a l)=AH (a ^^ b) l:=by
 unfold AH;rw [List.map_map];refine List.map_congr_left λx _=>?_
 simp [Function.comp,Bool.xor_assoc]
theorem Jd(b:Bool)(l k:List BarR):AH b (l++k)=AH b l++AH b k:=by unfold AH;simp
theorem FR(b:Bool)(l:List BarR):(AH b l).length=l.length:=by unfold AH;simp
def CD:Nat→List BarR→List BarR
 | 0,_=>[]
 | n+1,l=>l++CD n l
theorem Qh(n:Nat)(l:List BarR):(CD n l).length=n*l.length:=by
 induction n with
 | zero=>simp [CD]
 | succ n ih=>rw [CD,List.length_append,ih,Nat.succ_mul,Nat.add_comm]
theorem Og(b:Bool)(n:Nat)(l:List BarR):AH b (CD n l)=CD n (AH b l):=by
 induction n with
 | zero=>rfl
 | succ n ih=>rw [CD,CD,Jd,ih]
def itB(f:Nm→Int)(F:Int→List BarR)(k n:Int)(un:Nm)(ma:Option Addr)(mc:Nat)(ms:List Mov)(inner:List BarR):List BarR :=
 if k=1 then [⟨ma,mc,ms,false⟩] else if k=2 then CD n.toNat inner else if k=3 then AH true inner else if k=4 then F (f un) else []
def Lt.bars(f:Nm→Int)(F:Int→List BarR):Lt→List BarR
 | .nil=>[]
 | .cons k n un _ _ its ma mc ms r=>itB f F k n un ma mc ms (its.bars f F)++r.bars f F
theorem Lt.bars_congr(f:Nm→Int)(F G:Int→List BarR):∀T:Lt,(∀u∈T.strip.uses f,F u=G u)→T.bars f F=T.bars f G
 | .nil,_=>rfl
 | .cons k n un ia ic its ma mc ms r,h=>by
  unfold Lt.bars itB;rw [its.bars_congr f F G (λu hu=>h u (by simp [Lt.strip,Its.uses,hu])),r.bars_congr f F G (λu hu=>h u (by simp [Lt.strip,Its.uses,hu]))]
  have e:(if k=4 then F (f un) else [])=if k=4 then G (f un) else []:=by
   split
   ·rename_i hk
    exact h (f un) (by simp [Lt.strip,Its.uses,hk])
   ·rfl
  rw [e]
theorem DW(f:Nm→Int)(len:Int→Int)(F:Int→List BarR):∀(T:Lt) (n:Int),T.strip.exB=true→(∀u∈T.strip.uses f,len u=min ((F u).length:Int) 4097)→0≤n→n≤4097→T.strip.sumF f len n=min (n+(T.bars f F).length) 4097
 | .nil,n,_,_,h0,h1=>by simp only [Lt.strip,Its.sumF,Lt.bars,List.length_nil];omega
 | .cons k nn un ia ic its ma mc ms r,n,hx,hu,h0,h1=>by
  have hA:(Its.cons k nn un its.strip ms r.strip).exB=true:=hx;obtain ⟨hn,hi,hr⟩:=Its.exB_parts hA;have ihi:=DW f len F its 0 hi (λu h=>hu u (by simp [Lt.strip,Its.uses,h])) (by omega) (by omega);rw [Int.zero_add] at ihi;simp only [Lt.strip,Its.sumF,Lt.bars,List.length_append]
  have hv:∃v:Int,(if k=1 then 1 else if k=2 then nn*its.strip.sumF f len 0 else if k=3 then its.strip.sumF f len 0 else if k=4 then len (f un) else 0)=v∧0≤v∧min (n+v) 4097=min (n+((itB f F k nn un ma mc ms (its.bars f F)).length:Int)) 4097:=by
   refine ⟨_,rfl,?_⟩;unfold itB
   split
   ·simp
   ·split
    ·rename_i _ h2
     subst h2;obtain ⟨k1,k2⟩:=Fx hn;rw [ihi,Qh];obtain ⟨m,rfl⟩:∃m:Nat,nn=m:=⟨nn.toNat,by omega⟩;rw [Int.toNat_natCast];by_cases hL:((its.bars f F).length:Int)≤4097
     ·rw [Int.min_eq_left hL]
      refine ⟨Int.mul_nonneg (by omega) (by omega),by rw [Int.natCast_mul]⟩
     ·rw [Int.min_eq_right (by omega)]
      have a1:(1:Int)*4097≤(m:Int)*4097:=Int.mul_le_mul_of_nonneg_right k1 (by omega);have a2:(m:Int)*4097≤(m:Int)*((its.bars f F).length:Int):=Int.mul_le_mul_of_nonneg_left (by omega) (by omega);rw [Int.natCast_mul];omega
    ·split
     ·rw [ihi,FR];omega
     ·split
      ·rename_i h4
       rw [hu (f un) (by simp [Lt.strip,Its.uses,h4])];omega
      ·simp
  obtain ⟨v,e1,e2,e3⟩:=hv;rw [e1,DW f len F r _ hr (λu h=>hu u (by simp [Lt.strip,Its.uses,h])) (by omega) (by omega)];omega
def JL(L:List Lt)(f:Nm→Int):Nat→Int→List BarR
 | 0,_=>[]
 | d+1,k=>if 0≤k then (match L[k.toNat]? with
  | some t=>t.bars f (JL L f d)
  | none=>[]) else []
def JK(L:List Lt)(f:Nm→Int):Int→List BarR:=JL L f L.length
theorem Fl{L:List Lt}{f:Nm→Int}{d j:Nat}{t:Lt}(h:L[j]?=some t):JL L f (d+1) j=t.bars f (JL L f d):=by
 unfold JL;rw [if_pos (by omega),Int.toNat_natCast,h]
theorem Nt{L:List Lt}{f:Nm→Int}{rk:Nat→Nat}(hd:∀(j:Nat) (t:Lt),L[j]?=some t→∀u∈t.strip.uses f,∃i:Nat,u=i∧i<L.length∧rk i<rk j):∀(z j d d':Nat),rk j≤z→rk j<d→rk j<d'→j<L.length→JL L f d j=JL L f d' j:=by
 intro z
 induction z with
 | zero =>
  intro j d d' hz h1 h2 hj;obtain ⟨t,ht⟩:∃t,L[j]?=some t:=⟨_,qg hj⟩;obtain ⟨d,rfl⟩:∃e,d=e+1:=⟨d-1,by omega⟩;obtain ⟨d',rfl⟩:∃e,d'=e+1:=⟨d'-1,by omega⟩;rw [Fl ht,Fl ht];exact t.bars_congr f _ _ (λu hu=>by obtain ⟨i,rfl,hi,hr⟩:=hd j t ht u hu;omega)
 | succ z ih =>
  intro j d d' hz h1 h2 hj;obtain ⟨t,ht⟩:∃t,L[j]?=some t:=⟨_,qg hj⟩;obtain ⟨d,rfl⟩:∃e,d=e+1:=⟨d-1,by omega⟩;obtain ⟨d',rfl⟩:∃e,d'=e+1:=⟨d'-1,by omega⟩;rw [Fl ht,Fl ht]
  exact t.bars_congr f _ _ (λu hu=>by
   obtain ⟨i,rfl,hi,hr⟩:=hd j t ht u hu
   exact ih i d d' (by omega) (by omega) (by omega) hi)
def Ls.ltsL(s:Ls):List Lt:=s.phrases.map λp=>p.its
structure BarOk(s:Ls)(f:Nm→Int)(rk:Nat→Nat)(len:Int→Int)(B:Int→List BarR):Prop where
 lenOk:LenOk s.phrases f rk len
 fix:∀(j:Nat) (p:Ph),s.phrases[j]?=some p→B j=p.its.bars f B
 num:∀j:Nat,j<s.phrases.length→len j=min ((B j).length:Int) 4097
theorem OT{s:Ls}{f:Nm→Int}{len:Int→Int}(h:LenOk s.phrases f (CE (s.nexts f)) len)(hr:BK (s.nexts f)=[]):BarOk s f (CE (s.nexts f)) len (JK s.ltsL f):=by
 have hl:s.ltsL.length=s.phrases.length:=by simp [Ls.ltsL]
 have hk:(s.nexts f).length=s.phrases.length:=by simp [Ls.nexts]
 have hA:∀(j:Nat) (p:Ph),s.phrases[j]?=some p→s.ltsL[j]?=some p.its:=λj p h=>by unfold Ls.ltsL;rw [List.getElem?_map,h];rfl
 have hC:∀(j:Nat) (t:Lt),s.ltsL[j]?=some t→∀u∈t.strip.uses f,∃i:Nat,u=i∧i<s.ltsL.length∧CE (s.nexts f) i<CE (s.nexts f) j:=λj t ht u hm=>by
  have hj:=(ql.1 ht).1;obtain ⟨p,hp⟩:∃p,s.phrases[j]?=some p:=⟨_,qg (by rw [← hl];exact hj)⟩;have:=hA j p hp;rw [ht] at this;cases this;rw [hl];exact h.down j p hp u hm
 have hD:∀i,i<s.phrases.length→CE (s.nexts f) i<s.phrases.length:=λi hi=>by
  have:=Nf hr (j:=i) (by rw [hk];exact hi)
  rwa [hk] at this
 have fix:∀(j:Nat) (p:Ph),s.phrases[j]?=some p→JK s.ltsL f j=p.its.bars f (JK s.ltsL f):=λj p hp=>by
  have hj:=(ql.1 hp).1;unfold JK;obtain ⟨e,he⟩:∃e,s.ltsL.length=e+1:=⟨s.ltsL.length-1,by omega⟩;rw [he,Fl (hA j p hp)];refine Lt.bars_congr f _ _ _ (λu hm=>?_);obtain ⟨i,rfl,hi,hB⟩:=h.down j p hp u hm;have:=hD j hj;exact Nt hC _ i e (e+1) (qn _) (by omega) (by omega) (by omega)
 refine ⟨h,fix,?_⟩
 have key:∀(z j:Nat),CE (s.nexts f) j≤z→j<s.phrases.length→len j=min ((JK s.ltsL f j).length:Int) 4097:=by
  intro z
  induction z with
  | zero =>
   intro j hz hj;obtain ⟨p,hp⟩:∃p,s.phrases[j]?=some p:=⟨_,qg hj⟩;rw [h.fix j p hp,fix j p hp,DW f len (JK s.ltsL f) p.its 0 (h.ex j p hp) (λu hu=>by obtain ⟨i,rfl,hi,hB⟩:=h.down j p hp u hu;omega) (by omega) (by omega)];omega
  | succ z ih =>
   intro j hz hj;obtain ⟨p,hp⟩:∃p,s.phrases[j]?=some p:=⟨_,qg hj⟩;rw [h.fix j p hp,fix j p hp,DW f len (JK s.ltsL f) p.its 0 (h.ex j p hp) (λu hu=>by obtain ⟨i,rfl,hi,hB⟩:=h.down j p hp u hu;exact ih i (by omega) hi) (by omega) (by omega)];omega
 exact λj hj=>key _ j (qn _) hj
end
section
open Go Go.RowKit
theorem Ox(w:World):(Instr.typeAssert (.iface 114 (.agg #[])) 20 114 true).run Tryd.prog w=.ok (.tuple #[.agg #[],.bool true]) w:=by kernel_rfl
theorem Lc(w:World):(binOp .eql 20 (.iface 114 (.agg #[])) .nilIface).run Tryd.prog w=.ok (.bool false) w:=by kernel_rfl
theorem L8(p:Addr)(w:World) :
  CallsD Tryd.prog 41 #[.pointer (some p)] .returning w λe u' w'=>e=.returned (.tuple #[])∧u'=.returning∧w=w':=by
 refine callsD_of_wpS Tryd.func41 rfl λc₀ cs hu=>?_
 apply wpS_seq;apply wpS_region;simp [wpOpsS,go_sem,recoverD,hu,Tryd.ntmps41,Exit.thenS];refine wpS_of_wp ?_;simp only [Array.replicate];go_wp2;cases c₀
 simp_all [bodyPostS,results,Tryd.results41]
theorem FY(B:Nat)(x:Value)(w:World)(h0:w.heap[B]?=some (.cells #[x] 35 (0,0))) :
  CallsD Tryd.prog 41 #[.pointer (some ⟨B,0,none⟩)] (.panicking [{ v:=.iface 114 (.agg #[]),recovered:=false }]) w λe u' w' =>
   e=.returned (.tuple #[])∧u'=.panicking [{ v:=.iface 114 (.agg #[]),recovered:=true }]∧w'.heap[B]?=some (.cells #[int i64 180] 35 (0,0))∧Below B w w':=by
 obtain ⟨V,hV,_,bV,_⟩:=Af w #[] 114;have h1:=Ah bV h0;have c0:=cell_of_one h1;have f0:=free_of_one h1;have H0:=qh h1;have HB:=qh bV;have hA:Hid (B<w.heap.size):=qh (qs.1 h0).1;clear h0 h1 bV;refine callsD_of_wpS Tryd.func41 rfl λc₀ cs hu=>?_
 apply wpS_seq;apply wpS_region;simp [wpOpsS,go_sem,recoverD,hu,Tryd.ntmps41,Exit.thenS];refine wpS_of_wp ?_;have hB:=Ox;have hC:=Lc;simp only [Array.replicate];go_wp2;exact ⟨rfl,_,rfl,.tuple #[],results_none rfl _ _ _,rfl,rfl,one_setCell H0.out,(HB.out.mono (Nat.le_of_lt hA.out)).setCell (p:=⟨B,0,none⟩) (qn _) _⟩
abbrev DY(E:Nat):Deferred:={ target:=.fn (.func 41) #[.pointer (some ⟨E,0,none⟩)],args:=#[] }
theorem Of(t:Array Value)(B:Nat)(R:Ending→World→Prop)(w2:World)(x:Value)(hA:t.getD 2 undef=.pointer (some ⟨B,0,none⟩))
  (h0:w2.heap[B]?=some (.cells #[x] 35 (0,0))) (hR:∀w',Below B w2 w'→R (.returned (int i64 180)) w') :
  bodyPostD Tryd.prog Tryd.f23 R (Exit.panic BQ)
   { tmps:=t,defers:=[DY B] } w2:=by
 have HR:=qh hR;clear hR;refine leaves_cons (f:=41) (args:=#[.pointer (some ⟨B,0,none⟩)]) (by simp) (by simp [go_sem]) ?_;refine (FY B x _ h0).mono ?_;rintro e u' w'' ⟨rfl,rfl,k0,hB⟩;have c0:=cell_of_one k0;simp at hA;have HB:=qh hB;clear hB k0 h0;simp [Leaves,settle,results,Tryd.results23,go_sem,hA,c0];exact HR.out _ HB.out
theorem Qf(t:Array Value)(B:Nat)(R:Ending→World→Prop)(w2:World)(x:Value)(hA:t.getD 2 undef=.pointer (some ⟨B,0,none⟩))
  (h0:w2.cell? ⟨B,0,none⟩=some x) (hR:R (.returned x) w2) :
  bodyPostD Tryd.prog Tryd.f23 R Exit.ret { tmps:=t,defers:=[DY B] } w2:=by
 have HR:=qh hR;clear hR;simp at hA;refine leaves_cons (f:=41) (args:=#[.pointer (some ⟨B,0,none⟩)]) (by simp) (by simp [go_sem]) ?_;refine (L8 _ _).mono ?_;rintro e u' w'' ⟨rfl,rfl,rfl⟩;simp [Leaves,settle,results,Tryd.results23,go_sem,hA,h0];exact HR.out
theorem GX{α:Type}{l:List α}{p:α→Prop}{i:Nat}{x:α}(h:∀y∈l.take i,p y)(hx:l[i]?=some x)(hp:p x):∀y∈l.take (i+1),p y:=by
 intro y hy;rw [List.take_add_one,hx] at hy;rcases List.mem_append.1 hy with hy|hy
 ·exact h y hy
 ·simp at hy;subst hy;exact hp
theorem Df{n lo hi:Int}{v:Bool}(h:inB n lo hi=v)(w:World):Calls Tryd.prog 43 #[int i64 n,int i64 lo,int i64 hi] w λe w'=>e=.returned (.bool v)∧w=w':=by
 rw [← h];exact Bx n lo hi w
theorem Oq{s:Ls}{W:World}(h:s.At W){i:Nat}{x:Rol}(hi:s.roles[i]?=some x):∃b o,s.ra=some ⟨b,o,none⟩∧W.cell? ⟨b,o+i*4,none⟩=some (sv x.name)∧W.cell? ⟨b,o+i*4+1,none⟩=some (int i64 x.x)∧W.cell? ⟨b,o+i*4+2,none⟩=some (int i64 x.y)∧W.cell? ⟨b,o+i*4+3,none⟩=some (int i64 x.face):=by
 obtain ⟨b,o,h1,h2,_⟩:=h.roles.block hi;exact ⟨b,o,h1,h2 i x hi 0 _ rfl,h2 i x hi 1 _ rfl,h2 i x hi 2 _ rfl,h2 i x hi 3 _ rfl⟩
noncomputable def AJ:Code:=(Tryd.f23.body).getD .skip
noncomputable def P7:Code:=qe 0 AJ
noncomputable def P8:Code:=qe 1 AJ
noncomputable def P9:Code:=qe 2 AJ
noncomputable def elem29n3:Code:=qe 3 AJ
noncomputable def elem29n4:Code:=qe 4 AJ
noncomputable def elem29n5:Code:=qe 5 AJ
noncomputable def elem29n6:Code:=qe 6 AJ
noncomputable def elem29n7:Code:=qe 7 AJ
noncomputable def elem29n8:Code:=qe 8 AJ
noncomputable def elem29n9:Code:=qe 9 AJ
noncomputable def elem29n10:Code:=qe 10 AJ
theorem S0:AJ=.seq P7 (Ab 1 AJ):=rfl
theorem S3:Ab 1 AJ=.seq P8 (Ab 2 AJ):=rfl
theorem S4:Ab 2 AJ=.seq P9 (Ab 3 AJ):=rfl
theorem S5:Ab 3 AJ=.seq elem29n3 (Ab 4 AJ):=rfl
theorem S6:Ab 4 AJ=.seq elem29n4 (Ab 5 AJ):=rfl
theorem S7:Ab 5 AJ=.seq elem29n5 (Ab 6 AJ):=rfl
theorem S8:Ab 6 AJ=.seq elem29n6 (Ab 7 AJ):=rfl
theorem S9:Ab 7 AJ=.seq elem29n7 (Ab 8 AJ):=rfl
theorem Sa:Ab 8 AJ=.seq elem29n8 (Ab 9 AJ):=rfl
theorem Sb:Ab 9 AJ=.seq elem29n9 (Ab 10 AJ):=rfl
theorem Uu(s:Ls)(f:Nm→Int)(B E:Nat)(w W:World)(hs:RgS s f B w)(hb:Below w.heap.size w W)(ds:List Deferred)(Q:Exit→Act→World→Prop)
  (hN:(inB s.wd 1 1000&&inB s.dp 1 1000)=true→∀(x0 x3 x4 x5 x6 x7 x8 x9 bl bm bn bo bp bq br bs bt bu bv bw bx bz bA bB bC bD bE bF bG bH bI bJ bK bL bM bN bO bP bQ bR bS bT bU bV bW bY bZ ca cb cc cd ce cf cg ch ci cj ck cm cn co cp cq cr cs ct cu cv cw cx cy cz cA cB cC cD cE cF cG cH cI cJ cK cL cM cN cO cP cQ cR cS cT cU cV cW cX cY cZ da db dc dd de df dg dh di dj dk dl dm dn dq dr dt du dv dw dx dy:Value) (V:World),Below w.heap.size w V→Q .normal { tmps:=#[x0,.pointer (some ⟨B,0,none⟩),.pointer (some ⟨E,0,none⟩),x3,x4,x5,x6,x7,x8,x9,bl,bm,bn,bo,bp,bq,br,bs,bt,bu,bv,bw,bx,bz,bA,bB,bC,bD,bE,bF,bG,bH,bI,bJ,bK,bL,bM,bN,bO,bP,bQ,bR,bS,bT,bU,bV,bW,bY,bZ,ca,cb,cc,cd,ce,cf,cg,ch,ci,cj,ck,cm,cn,co,cp,cq,cr,cs,ct,cu,cv,cw,cx,cy,cz,cA,cB,cC,cD,cE,cF,cG,cH,cI,cJ,cK,cL,cM,cN,cO,cP,cQ,cR,cS,cT,cU,cV,cW,cX,cY,cZ,da,db,dc,dd,de,df,dg,dh,di,dj,dk,dl,dm,dn,dq,dr,dt,du,dv,dw,dx,dy],defers:=ds } V)
  (hP:(inB s.wd 1 1000&&inB s.dp 1 1000)=false→∀(t:Array Value) (V:World),t.getD 2 undef=.pointer (some ⟨E,0,none⟩)→Below w.heap.size w V→Q (.panic BQ) { tmps:=t,defers:=ds } V) :
  elem29n3.wp Tryd.prog Q { tmps:=#[e0,.pointer (some ⟨B,0,none⟩),.pointer (some ⟨E,0,none⟩),e3,e4,e5,e6,e7,e8,e9,ea,eb,ec,ed,ee,ef,eg,eh,ei,ej,ek,el,em,en,eo,ep,eq,er,es,et,eu,ev,ew,ex,ey,ez,eA,eB,eC,eD,eE,eF,eG,eH,eI,eJ,eK,eL,eM,eN,eO,eP,eQ,eR,eS,eT,eU,eV,eW,eX,eY,eZ,aa,ab,ac,ae,af,ag,ah,ai,aj,ak,al,am,an,ao,ap,aq,ar,au,av,aw,ax,ay,az,aA,aB,aC,aD,aE,aF,aG,aH,aI,aJ,aK,aL,aM,aN,aO,aP,aQ,aR,aS,aT,aU,aV,aW,aX,aY,aZ,ba,bb,bc,bd,be,bf,bg,bh,bi,bj,bk],defers:=ds } W:=by
 have hS:=hs.below hb;have y1:W.cell? ⟨B,1,none⟩=some (int i64 s.wd):=Aa hS.box 1 rfl;have y2:W.cell? ⟨B,2,none⟩=some (int i64 s.dp):=Aa hS.box 2 rfl;have HN:=qh hN;have HP:=qh hP;have HB:=qh hb;clear hN hP hb hS hs
 cases hA:inB s.wd 1 1000 with
 | false =>
  have HC:Hid ((inB s.wd 1 1000&&inB s.dp 1 1000)=false):=qh (by rw [hA];rfl)
  conv=>arg 2;whnf
  go_wp2_with (first|(go_at_call 43;refine (Df (by assumption) _).mono ?_;rintro e w2 ⟨rfl,rfl⟩)|(go_at_call 42;first|(refine (Aq _).mono ?_;rintro e w2 ⟨rfl,rfl⟩)|(refine (Al _).mono ?_;unfold Aj;rintro e w2 ⟨rfl,rfl⟩)));exact HP.out HC.out _ _ rfl HB.out
 | true =>
  cases hB:inB s.dp 1 1000 with
  | false =>
   have HC:Hid ((inB s.wd 1 1000&&inB s.dp 1 1000)=false):=qh (by rw [hA,hB];rfl)
   conv=>arg 2;whnf
   go_wp2_with (first|(go_at_call 43;refine (Df (by assumption) _).mono ?_;rintro e w2 ⟨rfl,rfl⟩)|(go_at_call 42;first|(refine (Aq _).mono ?_;rintro e w2 ⟨rfl,rfl⟩)|(refine (Al _).mono ?_;unfold Aj;rintro e w2 ⟨rfl,rfl⟩)));exact HP.out HC.out _ _ rfl HB.out
  | true =>
   have HC:Hid ((inB s.wd 1 1000&&inB s.dp 1 1000)=true):=qh (by rw [hA,hB];rfl)
   conv=>arg 2;whnf
   go_wp2_with (first|(go_at_call 43;refine (Df (by assumption) _).mono ?_;rintro e w2 ⟨rfl,rfl⟩)|(go_at_call 42;first|(refine (Aq _).mono ?_;rintro e w2 ⟨rfl,rfl⟩)|(refine (Al _).mono ?_;unfold Aj;rintro e w2 ⟨rfl,rfl⟩)));exact HN.out HC.out _ _ _ _ _ _ _ _ _ _ _ _ _ _ _ _ _ _ _ _ _ _ _ _ _ _ _ _ _ _ _ _ _ _ _ _ _ _ _ _ _ _ _ _ _ _ _ _ _ _ _ _ _ _ _ _ _ _ _ _ _ _ _ _ _ _ _ _ _ _ _ _ _ _ _ _ _ _ _ _ _ _ _ _ _ _ _ _ _ _ _ _ _ _ _ _ _ _ _ _ _ _ _ _ _ _ _ _ _ _ _ _ _ _ _ _ _ _ _ _ _ HB.out
theorem Uv(s:Ls)(f:Nm→Int)(B E:Nat)(w W:World)(hs:RgS s f B w)(hb:Below w.heap.size w W)(ds:List Deferred)(Q:Exit→Act→World→Prop)
  (hN:(inB s.t0 1 127&&inB s.t1 0 s.t0)=true→∀(x0 x3 x4 x5 x6 x7 x8 x9 bl bm bn bo bp bq br bs bt bu bv bw bx bz bA bB bC bD bE bF bG bH bI bJ bK bL bM bN bO bP bQ bR bS bT bU bV bW bY bZ ca cb cc cd ce cf cg ch ci cj ck cm cn co cp cq cr cs ct cu cv cw cx cy cz cA cB cC cD cE cF cG cH cI cJ cK cL cM cN cO cP cQ cR cS cT cU cV cW cX cY cZ da db dc dd de df dg dh di dj dk dl dm dn dp dq dr dt du dv dw dx:Value) (V:World),Below w.heap.size w V→Q .normal { tmps:=#[x0,.pointer (some ⟨B,0,none⟩),.pointer (some ⟨E,0,none⟩),x3,x4,x5,x6,x7,x8,x9,bl,bm,bn,bo,bp,bq,br,bs,bt,bu,bv,bw,bx,bz,bA,bB,bC,bD,bE,bF,bG,bH,bI,bJ,bK,bL,bM,bN,bO,bP,bQ,bR,bS,bT,bU,bV,bW,bY,bZ,ca,cb,cc,cd,ce,cf,cg,ch,ci,cj,ck,cm,cn,co,cp,cq,cr,cs,ct,cu,cv,cw,cx,cy,cz,cA,cB,cC,cD,cE,cF,cG,cH,cI,cJ,cK,cL,cM,cN,cO,cP,cQ,cR,cS,cT,cU,cV,cW,cX,cY,cZ,da,db,dc,dd,de,df,dg,dh,di,dj,dk,dl,dm,dn,dp,dq,dr,dt,du,dv,dw,dx],defers:=ds } V)
  (hP:(inB s.t0 1 127&&inB s.t1 0 s.t0)=false→∀(t:Array Value) (V:World),t.getD 2 undef=.pointer (some ⟨E,0,none⟩)→Below w.heap.size w V→Q (.panic BQ) { tmps:=t,defers:=ds } V) :
  elem29n4.wp Tryd.prog Q { tmps:=#[e0,.pointer (some ⟨B,0,none⟩),.pointer (some ⟨E,0,none⟩),e3,e4,e5,e6,e7,e8,e9,ea,eb,ec,ed,ee,ef,eg,eh,ei,ej,ek,el,em,en,eo,ep,eq,er,es,et,eu,ev,ew,ex,ey,ez,eA,eB,eC,eD,eE,eF,eG,eH,eI,eJ,eK,eL,eM,eN,eO,eP,eQ,eR,eS,eT,eU,eV,eW,eX,eY,eZ,aa,ab,ac,ae,af,ag,ah,ai,aj,ak,al,am,an,ao,ap,aq,ar,au,av,aw,ax,ay,az,aA,aB,aC,aD,aE,aF,aG,aH,aI,aJ,aK,aL,aM,aN,aO,aP,aQ,aR,aS,aT,aU,aV,aW,aX,aY,aZ,ba,bb,bc,bd,be,bf,bg,bh,bi,bj,bk],defers:=ds } W:=by
 have hS:=hs.below hb;have y1:W.cell? ⟨B,4,none⟩=some (int i64 s.t0):=Aa hS.box 4 rfl;have y2:W.cell? ⟨B,5,none⟩=some (int i64 s.t1):=Aa hS.box 5 rfl;have HN:=qh hN;have HP:=qh hP;have HB:=qh hb;clear hN hP hb hS hs
 cases hA:inB s.t0 1 127 with
 | false =>
  have HC:Hid ((inB s.t0 1 127&&inB s.t1 0 s.t0)=false):=qh (by rw [hA];rfl)
  conv=>arg 2;whnf
  go_wp2_with (first|(go_at_call 43;refine (Df (by assumption) _).mono ?_;rintro e w2 ⟨rfl,rfl⟩)|(go_at_call 42;first|(refine (Aq _).mono ?_;rintro e w2 ⟨rfl,rfl⟩)|(refine (Al _).mono ?_;unfold Aj;rintro e w2 ⟨rfl,rfl⟩)));exact HP.out HC.out _ _ rfl HB.out
 | true =>
  cases hB:inB s.t1 0 s.t0 with
  | false =>
   have HC:Hid ((inB s.t0 1 127&&inB s.t1 0 s.t0)=false):=qh (by rw [hA,hB];rfl)
   conv=>arg 2;whnf
   go_wp2_with (first|(go_at_call 43;refine (Df (by assumption) _).mono ?_;rintro e w2 ⟨rfl,rfl⟩)|(go_at_call 42;first|(refine (Aq _).mono ?_;rintro e w2 ⟨rfl,rfl⟩)|(refine (Al _).mono ?_;unfold Aj;rintro e w2 ⟨rfl,rfl⟩)));exact HP.out HC.out _ _ rfl HB.out
  | true =>
   have HC:Hid ((inB s.t0 1 127&&inB s.t1 0 s.t0)=true):=qh (by rw [hA,hB];rfl)
   conv=>arg 2;whnf
   go_wp2_with (first|(go_at_call 43;refine (Df (by assumption) _).mono ?_;rintro e w2 ⟨rfl,rfl⟩)|(go_at_call 42;first|(refine (Aq _).mono ?_;rintro e w2 ⟨rfl,rfl⟩)|(refine (Al _).mono ?_;unfold Aj;rintro e w2 ⟨rfl,rfl⟩)));exact HN.out HC.out _ _ _ _ _ _ _ _ _ _ _ _ _ _ _ _ _ _ _ _ _ _ _ _ _ _ _ _ _ _ _ _ _ _ _ _ _ _ _ _ _ _ _ _ _ _ _ _ _ _ _ _ _ _ _ _ _ _ _ _ _ _ _ _ _ _ _ _ _ _ _ _ _ _ _ _ _ _ _ _ _ _ _ _ _ _ _ _ _ _ _ _ _ _ _ _ _ _ _ _ _ _ _ _ _ _ _ _ _ _ _ _ _ _ _ _ _ _ _ _ _ HB.out
def Ca(s:Ls)(x:Rol):Bool:=(inB x.x 0 s.wd&&(inB x.y 0 s.dp&&inB x.face 0 7))
theorem Uw(s:Ls)(f:Nm→Int)(B E:Nat)(w W:World)(hs:RgS s f B w)(hb:Below w.heap.size w W)(_hl:s.roles.length≤100000)(ds:List Deferred)(Q:Exit→Act→World→Prop)
  (hN:s.roles.all (Ca s)=true→∀(x0 x3 x4 x5 x6 x7 x8 x9 bl bm bn bo bp bq br bs bt bu bv bw bx bz bA bB bC bD bE bF bG bH bI bJ bK bL bM bN bO bP bQ bR bS bT bU bV bW bY bZ ca cb cc cd ce cf cg ch ci cj ck cm cn co cp cq cr cs ct cu cv cw cx cy cz cA cB cC cD cE cF cG cH cI cJ cK cL cM cN cO cP cQ cR cS cT cU cV cW cX cY cZ da db dc dd de df dg dh di dj dk dl dm dn dq dr dt du dv dw dx dy:Value) (V:World),Below w.heap.size w V→Q .normal { tmps:=#[x0,.pointer (some ⟨B,0,none⟩),.pointer (some ⟨E,0,none⟩),x3,x4,x5,x6,x7,x8,x9,bl,bm,bn,bo,bp,bq,br,bs,bt,bu,bv,bw,bx,bz,bA,bB,bC,bD,bE,bF,bG,bH,bI,bJ,bK,bL,bM,bN,bO,bP,bQ,bR,bS,bT,bU,bV,bW,bY,bZ,ca,cb,cc,cd,ce,cf,cg,ch,ci,cj,ck,cm,cn,co,cp,cq,cr,cs,ct,cu,cv,cw,cx,cy,cz,cA,cB,cC,cD,cE,cF,cG,cH,cI,cJ,cK,cL,cM,cN,cO,cP,cQ,cR,cS,cT,cU,cV,cW,cX,cY,cZ,da,db,dc,dd,de,df,dg,dh,di,dj,dk,dl,dm,dn,dq,dr,dt,du,dv,dw,dx,dy],defers:=ds } V)
  (hP:s.roles.all (Ca s)=false→∀(t:Array Value) (V:World),t.getD 2 undef=.pointer (some ⟨E,0,none⟩)→Below w.heap.size w V→Q (.panic BQ) { tmps:=t,defers:=ds } V) :
  elem29n5.wp Tryd.prog Q { tmps:=#[e0,.pointer (some ⟨B,0,none⟩),.pointer (some ⟨E,0,none⟩),e3,e4,e5,e6,e7,e8,e9,ea,eb,ec,ed,ee,ef,eg,eh,ei,ej,ek,el,em,en,eo,ep,eq,er,es,et,eu,ev,ew,ex,ey,ez,eA,eB,eC,eD,eE,eF,eG,eH,eI,eJ,eK,eL,eM,eN,eO,eP,eQ,eR,eS,eT,eU,eV,eW,eX,eY,eZ,aa,ab,ac,ae,af,ag,ah,ai,aj,ak,al,am,an,ao,ap,aq,ar,au,av,aw,ax,ay,az,aA,aB,aC,aD,aE,aF,aG,aH,aI,aJ,aK,aL,aM,aN,aO,aP,aQ,aR,aS,aT,aU,aV,aW,aX,aY,aZ,ba,bb,bc,bd,be,bf,bg,bh,bi,bj,bk],defers:=ds } W:=by
 have hS:=hs.below hb;have y6:W.cell? ⟨B,6,none⟩=some (.slice s.ra s.roles.length s.rc):=Aa hS.box 6 rfl;have HN:=qh hN;have HP:=qh hP;have HB:=qh hb;have HS:=qh hs;clear hN hP hb hS hs;generalize hn:s.roles.length=n at *;have hG:=qh hn;clear hn
 conv=>arg 2;whnf
 go_wp2_with fail;go_loopw [42] (λiv wr=>∃i:Nat,iv=int i64 i∧i≤n∧Hid (∀x∈s.roles.take i,Ca s x=true)∧Hid (Below w.heap.size w wr)) (λiv _=>n+1-(intOf iv).toNat)
 case atStart=>exact ⟨0,rfl,Nat.zero_le _,qh (by simp),HB⟩
 case round =>
  obtain ⟨i,rfl,hL,hH,hB⟩:=hrel;by_cases hK:i<n
  ·have hi:(i:Int)<(n:Int):=by omega
   obtain ⟨x,hx⟩:∃x,s.roles[i]?=some x:=⟨_,qg (by rw [hG.out];exact hK)⟩;have hC:=HS.out.below hB.out;obtain ⟨b,o,e,c0,c1,c2,c3⟩:=Oq hC.at_ hx;have y1:wr.cell? ⟨B,1,none⟩=some (int i64 s.wd):=Aa hC.box 1 rfl;have y2:wr.cell? ⟨B,2,none⟩=some (int i64 s.dp):=Aa hC.box 2 rfl;obtain ⟨W2,hM,gW2,bW2,sW2⟩:=Af wr #[sv x.name,int i64 x.x,int i64 x.y,int i64 x.face] 67;have z1:=Aa gW2 1 rfl;have z2:=Aa gW2 2 rfl;have z3:=Aa gW2 3 rfl;have v1:=Ad bW2 y1;have v2:=Ad bW2 y2;have HX:=qh hx;have hD:=qh (Ag hB.out bW2);obtain ⟨r,hr⟩:∃r,Ca s x=r:=⟨_,rfl⟩;have HR:=qh hr;generalize hI:s.ra=ra at *;subst e;have hO:=qh hI;clear hx hC gW2 bW2 sW2 hI hr
   cases hE:inB x.x 0 s.wd with
   | false =>
    have hc:Ca s x=false:=by unfold Ca;rw [hE];rfl
    have hA:s.roles.all (Ca s)=false:=by
     rw [← Bool.not_eq_true,List.all_eq_true];intro h;rw [h x (List.mem_of_getElem? HX.out)] at hc;cases hc
    have HC:=qh hA;clear hc hA
    go_wp2_with (first|(go_at_call 43;refine (Df (by assumption) _).mono ?_;rintro e w2 ⟨rfl,rfl⟩)|(go_at_call 42;first|(refine (Aq _).mono ?_;rintro e w2 ⟨rfl,rfl⟩)|(refine (Al _).mono ?_;unfold Aj;rintro e w2 ⟨rfl,rfl⟩)));exact HP.out HC.out _ _ rfl hD.out
   | true =>
    cases hF:inB x.y 0 s.dp with
    | false =>
     have hc:Ca s x=false:=by unfold Ca;rw [hE,hF];rfl
     have hA:s.roles.all (Ca s)=false:=by
      rw [← Bool.not_eq_true,List.all_eq_true];intro h;rw [h x (List.mem_of_getElem? HX.out)] at hc;cases hc
     have HC:=qh hA;clear hc hA
     go_wp2_with (first|(go_at_call 43;refine (Df (by assumption) _).mono ?_;rintro e w2 ⟨rfl,rfl⟩)|(go_at_call 42;first|(refine (Aq _).mono ?_;rintro e w2 ⟨rfl,rfl⟩)|(refine (Al _).mono ?_;unfold Aj;rintro e w2 ⟨rfl,rfl⟩)));exact HP.out HC.out _ _ rfl hD.out
    | true =>
     cases hJ:inB x.face 0 7 with
     | false =>
      have hc:Ca s x=false:=by unfold Ca;rw [hE,hF,hJ];rfl
      have hA:s.roles.all (Ca s)=false:=by
       rw [← Bool.not_eq_true,List.all_eq_true];intro h;rw [h x (List.mem_of_getElem? HX.out)] at hc;cases hc
      have HC:=qh hA;clear hc hA
      go_wp2_with (first|(go_at_call 43;refine (Df (by assumption) _).mono ?_;rintro e w2 ⟨rfl,rfl⟩)|(go_at_call 42;first|(refine (Aq _).mono ?_;rintro e w2 ⟨rfl,rfl⟩)|(refine (Al _).mono ?_;unfold Aj;rintro e w2 ⟨rfl,rfl⟩)));exact HP.out HC.out _ _ rfl hD.out
     | true =>
      have hc:Ca s x=true:=by unfold Ca;rw [hE,hF,hJ];rfl
      have HC:=qh hc;clear hc
      go_wp2_with (first|(go_at_call 43;refine (Df (by assumption) _).mono ?_;rintro e w2 ⟨rfl,rfl⟩)|(go_at_call 42;first|(refine (Aq _).mono ?_;rintro e w2 ⟨rfl,rfl⟩)|(refine (Al _).mono ?_;unfold Aj;rintro e w2 ⟨rfl,rfl⟩)));go_roundw
      case rel=>exact ⟨i+1,by go_num,by omega,qh (GX hH.out HX.out HC.out),hD⟩
      case measure=>simp [intOf];omega
  ·have:i=n:=by omega
   subst this;have hz:¬(i:Int)<(i:Int):=by omega
   have hA:s.roles.all (Ca s)=true:=List.all_eq_true.2 (λx hx=>hH.out x (by rw [List.take_of_length_le (by rw [hG.out];exact qn _)];exact hx));have HC:=qh hA;clear hA;go_wp2_with fail;exact HN.out HC.out _ _ _ _ _ _ _ _ _ _ _ _ _ _ _ _ _ _ _ _ _ _ _ _ _ _ _ _ _ _ _ _ _ _ _ _ _ _ _ _ _ _ _ _ _ _ _ _ _ _ _ _ _ _ _ _ _ _ _ _ _ _ _ _ _ _ _ _ _ _ _ _ _ _ _ _ _ _ _ _ _ _ _ _ _ _ _ _ _ _ _ _ _ _ _ _ _ _ _ _ _ _ _ _ _ _ _ _ _ _ _ _ _ _ _ _ _ _ _ _ _ hB.out
theorem Ra(V:World):(binOp .eql 117 (.slice none 0 0) (.slice none 0 0)).run Tryd.prog V=.ok (.bool true) V:=by kernel_rfl
theorem Po(g n c:Nat)(V:World):(binOp .eql 117 (.slice (some ⟨g,0,none⟩) n c) (.slice none 0 0)).run Tryd.prog V=.ok (.bool false) V:=by kernel_rfl
theorem Ux(s:Ls)(f:Nm→Int)(B E:Nat)(w W:World)(hs:RgS s f B w)(hb:Below w.heap.size w W)(ds:List Deferred)(Q:Exit→Act→World→Prop)
  (hN:decide (Cb ⟨s.bars,s.tempos,s.pauses,s.spans⟩=0)=true→∀(x0 x3 x4 x5 x6 x7 x8 x9 bl bm bn bo bp bq br bs bt bu bv bw bx bz bA bB bC bD bE bF bG bH bI bJ bK bL bM bN bO bP bQ bR bS bT bU bV bW bY bZ ca cb cc cd ce cf cg ch ci cj ck cm cn co cp cq cr cs ct cu cv cw cx cy cz cA cB cC cD cE cF cG cH cI cJ cK cL cM cN cO cP cQ cR cS cT cU cV cW cX cY cZ da db dc dd de df dg dh di dj dk dl dm dn dp dq dr dt du dv dw dx:Value) (V:World),Below w.heap.size w V→Q .normal { tmps:=#[x0,.pointer (some ⟨B,0,none⟩),.pointer (some ⟨E,0,none⟩),x3,x4,x5,x6,x7,x8,x9,bl,bm,bn,bo,bp,bq,br,bs,bt,bu,bv,bw,bx,bz,bA,bB,bC,bD,bE,bF,bG,bH,bI,bJ,bK,bL,bM,bN,bO,bP,bQ,bR,bS,bT,bU,bV,bW,bY,bZ,ca,cb,cc,cd,ce,cf,cg,ch,ci,cj,ck,cm,cn,co,cp,cq,cr,cs,ct,cu,cv,cw,cx,cy,cz,cA,cB,cC,cD,cE,cF,cG,cH,cI,cJ,cK,cL,cM,cN,cO,cP,cQ,cR,cS,cT,cU,cV,cW,cX,cY,cZ,da,db,dc,dd,de,df,dg,dh,di,dj,dk,dl,dm,dn,dp,dq,dr,dt,du,dv,dw,dx],defers:=ds } V)
  (hP:decide (Cb ⟨s.bars,s.tempos,s.pauses,s.spans⟩=0)=false→∀(t:Array Value) (V:World),t.getD 2 undef=.pointer (some ⟨E,0,none⟩)→Below w.heap.size w V→Q (.panic BQ) { tmps:=t,defers:=ds } V) :
  elem29n6.wp Tryd.prog Q { tmps:=#[e0,.pointer (some ⟨B,0,none⟩),.pointer (some ⟨E,0,none⟩),e3,e4,e5,e6,e7,e8,e9,ea,eb,ec,ed,ee,ef,eg,eh,ei,ej,ek,el,em,en,eo,ep,eq,er,es,et,eu,ev,ew,ex,ey,ez,eA,eB,eC,eD,eE,eF,eG,eH,eI,eJ,eK,eL,eM,eN,eO,eP,eQ,eR,eS,eT,eU,eV,eW,eX,eY,eZ,aa,ab,ac,ae,af,ag,ah,ai,aj,ak,al,am,an,ao,ap,aq,ar,au,av,aw,ax,ay,az,aA,aB,aC,aD,aE,aF,aG,aH,aI,aJ,aK,aL,aM,aN,aO,aP,aQ,aR,aS,aT,aU,aV,aW,aX,aY,aZ,ba,bb,bc,bd,be,bf,bg,bh,bi,bj,bk],defers:=ds } W:=by
 have hS:=hs.below hb;have y1:W.cell? ⟨B,3,none⟩=some (int i64 s.bars):=Aa hS.box 3 rfl;have y2:W.cell? ⟨B,7,none⟩=some (.slice s.ta s.tempos.length s.tc):=Aa hS.box 7 rfl;have y3:W.cell? ⟨B,8,none⟩=some (.slice s.ua s.pauses.length s.uc):=Aa hS.box 8 rfl;have y4:W.cell? ⟨B,9,none⟩=some (.slice s.sa s.spans.length s.sc):=Aa hS.box 9 rfl;have C:=IE s.bars s.ta s.ua s.sa s.tc s.uc s.sc s.tempos s.pauses s.spans W hS.at_.tempos hS.at_.pauses hS.at_.spans;have HN:=qh hN;have HP:=qh hP;have HB:=qh hb;obtain ⟨c,hc⟩:∃c,Cb ⟨s.bars,s.tempos,s.pauses,s.spans⟩=c:=⟨_,rfl⟩;rw [hc] at C;have HC:=qh C;have HK:=qh hc;clear hN hP hb hS hs C hc
 conv=>arg 2;whnf
 by_cases hz:c=0
 ·subst hz
  have HD:Hid (decide (Cb ⟨s.bars,s.tempos,s.pauses,s.spans⟩=0)=true):=qh (decide_eq_true HK.out)
  go_wp2_with (first|(go_at_call 15;refine HC.out.mono ?_;rintro e V ⟨rfl,hv⟩;have HV:=qh hv;clear hv)|(first|(go_at_call 43;refine (Df (by assumption) _).mono ?_;rintro e w2 ⟨rfl,rfl⟩)|(go_at_call 42;first|(refine (Aq _).mono ?_;rintro e w2 ⟨rfl,rfl⟩)|(refine (Al _).mono ?_;unfold Aj;rintro e w2 ⟨rfl,rfl⟩))));exact HN.out HD.out _ _ _ _ _ _ _ _ _ _ _ _ _ _ _ _ _ _ _ _ _ _ _ _ _ _ _ _ _ _ _ _ _ _ _ _ _ _ _ _ _ _ _ _ _ _ _ _ _ _ _ _ _ _ _ _ _ _ _ _ _ _ _ _ _ _ _ _ _ _ _ _ _ _ _ _ _ _ _ _ _ _ _ _ _ _ _ _ _ _ _ _ _ _ _ _ _ _ _ _ _ _ _ _ _ _ _ _ _ _ _ _ _ _ _ _ _ _ _ _ _ (Ag HB.out HV.out)
 ·have HD:Hid (decide (Cb ⟨s.bars,s.tempos,s.pauses,s.spans⟩=0)=false):=qh (decide_eq_false (by rw [HK.out];exact hz))
  go_wp2_with (first|(go_at_call 42;refine (BS (by simpa using hz) _).mono ?_;unfold Aj;rintro e w2 ⟨rfl,rfl⟩)|(go_at_call 15;refine HC.out.mono ?_;rintro e V ⟨rfl,hv⟩;have HV:=qh hv;clear hv)|(first|(go_at_call 43;refine (Df (by assumption) _).mono ?_;rintro e w2 ⟨rfl,rfl⟩)|(go_at_call 42;first|(refine (Aq _).mono ?_;rintro e w2 ⟨rfl,rfl⟩)|(refine (Al _).mono ?_;unfold Aj;rintro e w2 ⟨rfl,rfl⟩))));exact HP.out HD.out _ _ rfl (Ag HB.out HV.out)
theorem Uy(s:Ls)(f:Nm→Int)(B E:Nat)(w W:World)(hs:RgS s f B w)(hb:Below w.heap.size w W)(_hl:s.phrases.length≤100000)(ds:List Deferred)(Q:Exit→Act→World→Prop)
  (hN:s.phrases.all (λp=>p.its.strip.exB)=true→∀(x0 x3 x4 x5 x6 x7 x8 x9 bl bm bn bo bp bq br bs bt bu bv bw bx bz bA bB bC bD bE bF bG bH bI bJ bK bL bM bN bO bP bQ bR bS bT bU bV bW bY bZ ca cb cc cd ce cf cg ch ci cj ck cm cn co cp cq cr cs ct cu cv cw cx cy cz cA cB cC cD cE cF cG cH cI cJ cK cL cM cN cO cP cQ cR cS cT cU cV cW cX cY cZ da db dc dd de df dg dh di dj dk dl dm dn dp dq dr dt du dv dw dx:Value) (V:World),Below w.heap.size w V→Q .normal { tmps:=#[x0,.pointer (some ⟨B,0,none⟩),.pointer (some ⟨E,0,none⟩),x3,x4,x5,x6,x7,x8,x9,bl,bm,bn,bo,bp,bq,br,bs,bt,bu,bv,bw,bx,bz,bA,bB,bC,bD,bE,bF,bG,bH,bI,bJ,bK,bL,bM,bN,bO,bP,bQ,bR,bS,bT,bU,bV,bW,bY,bZ,ca,cb,cc,cd,ce,cf,cg,ch,ci,cj,ck,cm,cn,co,cp,cq,cr,cs,ct,cu,cv,cw,cx,cy,cz,cA,cB,cC,cD,cE,cF,cG,cH,cI,cJ,cK,cL,cM,cN,cO,cP,cQ,cR,cS,cT,cU,cV,cW,cX,cY,cZ,da,db,dc,dd,de,df,dg,dh,di,dj,dk,dl,dm,dn,dp,dq,dr,dt,du,dv,dw,dx],defers:=ds } V)
  (hP:s.phrases.all (λp=>p.its.strip.exB)=false→∀(t:Array Value) (V:World),t.getD 2 undef=.pointer (some ⟨E,0,none⟩)→Below w.heap.size w V→Q (.panic BQ) { tmps:=t,defers:=ds } V) :
  elem29n7.wp Tryd.prog Q { tmps:=#[e0,.pointer (some ⟨B,0,none⟩),.pointer (some ⟨E,0,none⟩),e3,e4,e5,e6,e7,e8,e9,ea,eb,ec,ed,ee,ef,eg,eh,ei,ej,ek,el,em,en,eo,ep,eq,er,es,et,eu,ev,ew,ex,ey,ez,eA,eB,eC,eD,eE,eF,eG,eH,eI,eJ,eK,eL,eM,eN,eO,eP,eQ,eR,eS,eT,eU,eV,eW,eX,eY,eZ,aa,ab,ac,ae,af,ag,ah,ai,aj,ak,al,am,an,ao,ap,aq,ar,au,av,aw,ax,ay,az,aA,aB,aC,aD,aE,aF,aG,aH,aI,aJ,aK,aL,aM,aN,aO,aP,aQ,aR,aS,aT,aU,aV,aW,aX,aY,aZ,ba,bb,bc,bd,be,bf,bg,bh,bi,bj,bk],defers:=ds } W:=by
 have hS:=hs.below hb;have y6:W.cell? ⟨B,10,none⟩=some (.slice s.fa s.phrases.length s.fc):=Aa hS.box 10 rfl;have HN:=qh hN;have HP:=qh hP;have HB:=qh hb;have HS:=qh hs;clear hN hP hb hS hs;generalize hn:s.phrases.length=n at *;have hF:=qh hn;clear hn
 conv=>arg 2;whnf
 go_wp2_with fail;go_loopw [80] (λiv wr=>∃i:Nat,iv=int i64 i∧i≤n∧Hid (∀p∈s.phrases.take i,p.its.strip.exB=true)∧Hid (Below w.heap.size w wr)) (λiv _=>n+1-(intOf iv).toNat)
 case atStart=>exact ⟨0,rfl,Nat.zero_le _,qh (by simp),HB⟩
 case round =>
  obtain ⟨i,rfl,hQ,hG,hB⟩:=hrel;by_cases hK:i<n
  ·have hi:(i:Int)<(n:Int):=by omega
   obtain ⟨p,hp⟩:∃p,s.phrases[i]?=some p:=⟨_,qg (by rw [hF.out];exact hK)⟩;have hD:=HS.out.below hB.out;obtain ⟨c0,c1⟩:=Cz hD.at_.phrases hp;have hL:=hD.at_.pform.resolve_left (λe=>by rw [e] at hp;cases hp);obtain ⟨W2,hR,gW2,bW2,sW2⟩:=Af wr #[sv p.name,.slice p.ia p.its.len p.ic] 99;have hE:=hD.below bW2;obtain ⟨i1,i2,i3⟩:=Dp hE.at_.phrases hp;have hC:NumAt f W2 (p.its.refsL (blk p.ia) (off p.ia)):=λx hx=>hE.nums x (CJ hp hx)
   obtain ⟨ns,hH⟩:=hC.ns;have C:=Pp _ p.its (qn _) p.ia p.ic ns W2 i1 i2 i3 hH;have z1:=Aa gW2 1 rfl;unfold Ph.val at c1;have HX:=qh hp;have hI:=qh (Ag hB.out bW2);have HC:=qh C;generalize hJ:s.fa=fa at *;have hT:=qh hJ;clear hJ;generalize hM:blk fa=fb at *;generalize hO:off fa=fo at *;subst hL;clear hM hO hp hD hE gW2 bW2 sW2 i1 i2 i3 hC hH C
   go_wp2_with (go_at_call 44;refine HC.out.mono ?_;intro e V he;rcases M9 he with ⟨h1,rfl,hb⟩|⟨h1,rfl,hb⟩<;>clear he)
   ·have HV:=qh (Ag hI.out hb);have H1:=qh h1
    clear hb h1;go_roundw
    case rel=>exact ⟨i+1,by go_num,by omega,qh (GX hG.out HX.out H1.out),HV⟩
    case measure=>simp [intOf];omega
   ·have hA:s.phrases.all (λp=>p.its.strip.exB)=false:=by
     rw [← Bool.not_eq_true,List.all_eq_true];intro h;have:=h p (List.mem_of_getElem? HX.out);rw [h1] at this;cases this
    exact HP.out hA _ _ rfl (Ag hI.out hb)
  ·have:i=n:=by omega
   subst this;have hz:¬(i:Int)<(i:Int):=by omega
   have hA:s.phrases.all (λp=>p.its.strip.exB)=true:=List.all_eq_true.2 (λx hx=>hG.out x (by rw [List.take_of_length_le (by rw [hF.out];exact qn _)];exact hx));have HC:=qh hA;clear hA;go_wp2_with fail;exact HN.out HC.out _ _ _ _ _ _ _ _ _ _ _ _ _ _ _ _ _ _ _ _ _ _ _ _ _ _ _ _ _ _ _ _ _ _ _ _ _ _ _ _ _ _ _ _ _ _ _ _ _ _ _ _ _ _ _ _ _ _ _ _ _ _ _ _ _ _ _ _ _ _ _ _ _ _ _ _ _ _ _ _ _ _ _ _ _ _ _ _ _ _ _ _ _ _ _ _ _ _ _ _ _ _ _ _ _ _ _ _ _ _ _ _ _ _ _ _ _ _ _ _ _ hB.out
theorem Uz(s:Ls)(f:Nm→Int)(B E:Nat)(w W:World)(hs:RgS s f B w)(hb:Below w.heap.size w W)(hl:s.phrases.length≤999)(ds:List Deferred)(Q:Exit→Act→World→Prop)
  (hN:decide (BK (s.nexts f)=[])=true→∀(x0 x3 x4 x5 x6 x7 x8 x9 bl bm bn bo bp bq br bs bt bu bv bw bx bz bA bB bC bD bE bF bG bH bI bJ bK bL bM bN bO bP bQ bR bS bT bU bV bW bY bZ ca cb cc cd ce cf cg ch ci cj ck cm cn co cp cq cr cs ct cu cv cw cx cy cz cA cB cC cD cE cF cG cH cI cJ cK cL cM cN cO cP cQ cR cS cT cU cV cW cX cY cZ da db dc dd de df dg dh di dj dk dl dm dn dp dq dr dt du dv dw dx:Value) (V:World),Below w.heap.size w V→Q .normal { tmps:=#[x0,.pointer (some ⟨B,0,none⟩),.pointer (some ⟨E,0,none⟩),x3,x4,x5,x6,x7,x8,x9,bl,bm,bn,bo,bp,bq,br,bs,bt,bu,bv,bw,bx,bz,bA,bB,bC,bD,bE,bF,bG,bH,bI,bJ,bK,bL,bM,bN,bO,bP,bQ,bR,bS,bT,bU,bV,bW,bY,bZ,ca,cb,cc,cd,ce,cf,cg,ch,ci,cj,ck,cm,cn,co,cp,cq,cr,cs,ct,cu,cv,cw,cx,cy,cz,cA,cB,cC,cD,cE,cF,cG,cH,cI,cJ,cK,cL,cM,cN,cO,cP,cQ,cR,cS,cT,cU,cV,cW,cX,cY,cZ,da,db,dc,dd,de,df,dg,dh,di,dj,dk,dl,dm,dn,dp,dq,dr,dt,du,dv,dw,dx],defers:=ds } V)
  (hP:decide (BK (s.nexts f)=[])=false→∀(t:Array Value) (V:World),t.getD 2 undef=.pointer (some ⟨E,0,none⟩)→Below w.heap.size w V→Q (.panic BQ) { tmps:=t,defers:=ds } V) :
  elem29n8.wp Tryd.prog Q { tmps:=#[e0,.pointer (some ⟨B,0,none⟩),.pointer (some ⟨E,0,none⟩),e3,e4,e5,e6,e7,e8,e9,ea,eb,ec,ed,ee,ef,eg,eh,ei,ej,ek,el,em,en,eo,ep,eq,er,es,et,eu,ev,ew,ex,ey,ez,eA,eB,eC,eD,eE,eF,eG,eH,eI,eJ,eK,eL,eM,eN,eO,eP,eQ,eR,eS,eT,eU,eV,eW,eX,eY,eZ,aa,ab,ac,ae,af,ag,ah,ai,aj,ak,al,am,an,ao,ap,aq,ar,au,av,aw,ax,ay,az,aA,aB,aC,aD,aE,aF,aG,aH,aI,aJ,aK,aL,aM,aN,aO,aP,aQ,aR,aS,aT,aU,aV,aW,aX,aY,aZ,ba,bb,bc,bd,be,bf,bg,bh,bi,bj,bk],defers:=ds } W:=by
 have hS:=hs.below hb;have C:=Qo s f W hS.at_ hS.nums hl;have HN:=qh hN;have HP:=qh hP;have HB:=qh hb;have HC:=qh C;have HX:=qh hS.box;clear hN hP hb hS hs C
 conv=>arg 2;whnf
 have hB:=Ra;have hC:=Po;have st0:True:=trivial;by_cases hz:BK (s.nexts f)=[]
 ·have HD:Hid (decide (BK (s.nexts f)=[])=true):=qh (decide_eq_true hz)
  go_wp2_with (first|(have q:=st0;clear q st0;(refine wpList_load_row rfl 55 _ rfl B rfl 55 s.cells (0,0) _ HX.out Tryd.underlying55 rfl (by kernel_rfl) ?_;simp only [Act.put,qD,qE,qF]))|(go_at_call 45;refine HC.out.mono ?_;rintro e V ⟨v,rfl,hv,hr⟩;rcases hr with ⟨_,rfl⟩|⟨g,cap,rfl,hA,_⟩;rotate_left;exact absurd hz hA;have HV:=qh hv;clear hv)|(first|(go_at_call 43;refine (Df (by assumption) _).mono ?_;rintro e w2 ⟨rfl,rfl⟩)|(go_at_call 42;first|(refine (Aq _).mono ?_;rintro e w2 ⟨rfl,rfl⟩)|(refine (Al _).mono ?_;unfold Aj;rintro e w2 ⟨rfl,rfl⟩))));exact HN.out HD.out _ _ _ _ _ _ _ _ _ _ _ _ _ _ _ _ _ _ _ _ _ _ _ _ _ _ _ _ _ _ _ _ _ _ _ _ _ _ _ _ _ _ _ _ _ _ _ _ _ _ _ _ _ _ _ _ _ _ _ _ _ _ _ _ _ _ _ _ _ _ _ _ _ _ _ _ _ _ _ _ _ _ _ _ _ _ _ _ _ _ _ _ _ _ _ _ _ _ _ _ _ _ _ _ _ _ _ _ _ _ _ _ _ _ _ _ _ _ _ _ _ (Ag HB.out HV.out)
 ·have HD:Hid (decide (BK (s.nexts f)=[])=false):=qh (decide_eq_false hz)
  go_wp2_with (first|(have q:=st0;clear q st0;(refine wpList_load_row rfl 55 _ rfl B rfl 55 s.cells (0,0) _ HX.out Tryd.underlying55 rfl (by kernel_rfl) ?_;simp only [Act.put,qD,qE,qF]))|(go_at_call 45;refine HC.out.mono ?_;rintro e V ⟨v,rfl,hv,hr⟩;rcases hr with ⟨he,_⟩|⟨g,cap,rfl,hA,_⟩;exact absurd he hz;have HV:=qh hv;clear hv)|(first|(go_at_call 43;refine (Df (by assumption) _).mono ?_;rintro e w2 ⟨rfl,rfl⟩)|(go_at_call 42;first|(refine (Aq _).mono ?_;rintro e w2 ⟨rfl,rfl⟩)|(refine (Al _).mono ?_;unfold Aj;rintro e w2 ⟨rfl,rfl⟩))));exact HP.out HD.out _ _ rfl (Ag HB.out HV.out)
abbrev KU(KB SB B:Nat):Value:=.func (.func 65) #[] #[.pointer (some ⟨KB,0,none⟩),.pointer (some ⟨SB,0,none⟩),.pointer (some ⟨B,0,none⟩)]
theorem UA(s:Ls)(f:Nm→Int)(len:Int→Int)(B E:Nat)(w W:World)(hs:RgS s f B w)(hb:Below w.heap.size w W)(ds:List Deferred)(Q:Exit→Act→World→Prop)
  (hN:∀(B7 KB M SB PB:Nat) (x0 x3 x4 x5 x6 x8 x9 bl bm bn bo bp bq br bs bt bu bv bw bx bz bA bB bC bD bE bF bG bH bI bJ bK bL bM bN bO bP bQ bR bS bT bU bV bW bY bZ ca cb cc cd ce cf cg ch ci cj ck cm cn co cp cq cr cs ct cu cv cw cx cy cz cA cB cC cD cE cF cG cH cI cJ cK cL cM cN cO cP cQ cR cS cT cU cV cW cX cY cZ da db dc dd de df dg dh di dj dk dl dm dn dp dq dr dt du dv dw dx:Value) (V:World),LenW V s f B7 KB M SB PB len→w.heap.size≤M→Below w.heap.size w V→Q .normal { tmps:=#[x0,.pointer (some ⟨B,0,none⟩),.pointer (some ⟨E,0,none⟩),x3,x4,x5,x6,KU KB SB B7,x8,x9,bl,bm,bn,bo,bp,bq,br,bs,bt,bu,bv,bw,bx,bz,bA,bB,bC,bD,bE,bF,bG,bH,bI,bJ,bK,bL,bM,bN,bO,bP,bQ,bR,bS,bT,bU,bV,bW,bY,bZ,ca,cb,cc,cd,ce,cf,cg,ch,ci,cj,ck,cm,cn,co,cp,cq,cr,cs,ct,cu,cv,cw,cx,cy,cz,cA,cB,cC,cD,cE,cF,cG,cH,cI,cJ,cK,cL,cM,cN,cO,cP,cQ,cR,cS,cT,cU,cV,cW,cX,cY,cZ,da,db,dc,dd,de,df,dg,dh,di,dj,dk,dl,dm,dn,dp,dq,dr,dt,du,dv,dw,dx],defers:=ds } V) :
  elem29n9.wp Tryd.prog Q { tmps:=#[e0,.pointer (some ⟨B,0,none⟩),.pointer (some ⟨E,0,none⟩),e3,e4,e5,e6,e7,e8,e9,ea,eb,ec,ed,ee,ef,eg,eh,ei,ej,ek,el,em,en,eo,ep,eq,er,es,et,eu,ev,ew,ex,ey,ez,eA,eB,eC,eD,eE,eF,eG,eH,eI,eJ,eK,eL,eM,eN,eO,eP,eQ,eR,eS,eT,eU,eV,eW,eX,eY,eZ,aa,ab,ac,ae,af,ag,ah,ai,aj,ak,al,am,an,ao,ap,aq,ar,au,av,aw,ax,ay,az,aA,aB,aC,aD,aE,aF,aG,aH,aI,aJ,aK,aL,aM,aN,aO,aP,aQ,aR,aS,aT,aU,aV,aW,aX,aY,aZ,ba,bb,bc,bd,be,bf,bg,bh,bi,bj,bk],defers:=ds } W:=by
 have hS:=hs.below hb;have C:=KS s f len W hS.at_ hS.nums;have HN:=qh hN;have HB:=qh hb;have HC:=qh C;have HX:=qh hS.box;clear hN hb hS hs C
 conv=>arg 2;whnf
 have st0:True:=trivial
 go_wp2_with (first|(have q:=st0;clear q st0;(refine wpList_load_row rfl 55 _ rfl B rfl 55 s.cells (0,0) _ HX.out Tryd.underlying55 rfl (by kernel_rfl) ?_;simp only [Act.put,qD,qE,qF]))|(go_at_call 46;refine HC.out.mono ?_;rintro e V ⟨B7,KB,M,SB,PB,rfl,h1,h2,h3⟩;have H1:=qh h1;have H2:=qh h2;have H3:=qh h3;clear h1 h2 h3));exact HN.out _ _ _ _ _ _ _ _ _ _ _ _ _ _ _ _ _ _ _ _ _ _ _ _ _ _ _ _ _ _ _ _ _ _ _ _ _ _ _ _ _ _ _ _ _ _ _ _ _ _ _ _ _ _ _ _ _ _ _ _ _ _ _ _ _ _ _ _ _ _ _ _ _ _ _ _ _ _ _ _ _ _ _ _ _ _ _ _ _ _ _ _ _ _ _ _ _ _ _ _ _ _ _ _ _ _ _ _ _ _ _ _ _ _ _ _ _ _ _ _ _ _ _ _ _ H1.out (Nat.le_trans HB.out.size H2.out) (Ag HB.out H3.out)
def CY(s:Ls)(f:Nm→Int)(len:Int→Int)(d:Dan):Bool:=inB d.bar 0 (s.bars-1)&&decide (d.bar+len (f d.pn)≤s.bars)
theorem Ja{f:Nm→Int}{W:World}{b:Nat}:∀{o:Nat} {ds:List Dan} {i:Nat} {d:Dan},BA W b o ds→NumAt f W (An b o ds)→ds[i]?=some d→∃u1,W.cell? ⟨b,o+i*6,none⟩=some (sv d.rn)∧W.cell? ⟨b,o+i*6+1,none⟩=some (int i64 u1)∧W.cell? ⟨b,o+i*6+2,none⟩=some (sv d.pn)∧W.cell? ⟨b,o+i*6+3,none⟩=some (int i64 (f d.pn))∧W.cell? ⟨b,o+i*6+4,none⟩=some (int i64 d.bar)∧W.cell? ⟨b,o+i*6+5,none⟩=some (.bool d.mirror)
 | _,[],_,_,_,_,h=>by cases h
 | o,x::r,0,d,⟨⟨h0,h2,h4,h5⟩,_⟩,hn,h=>by
  cases h;obtain ⟨n1,a1,_⟩:=hn ⟨b,o,1,x.rn⟩ (by simp [An]);obtain ⟨n2,a2,a3⟩:=hn ⟨b,o+2,2,x.pn⟩ (by simp [An]);rw [a3 rfl] at a2;exact ⟨n1,by simpa using h0,by simpa using a1,by simpa using h2,by simpa using a2,by simpa using h4,by simpa using h5⟩
 | o,x::r,i+1,d,⟨_,hr⟩,hn,h=>by
  have:=Ja (i:=i) hr (λy hy=>hn y (by simp [An,hy])) (by simpa using h);rw [show o+(i+1)*6=o+6+i*6 by omega];exact this
noncomputable def reg23:Code:=match elem29n10 with
 | .seq _ (.block _ (.loop (.seq _ (.seq _ (.seq (.block _ (.seq _ c)) _)))))=>c
 | c=>c
structure DanS(s:Ls)(f:Nm→Int)(len:Int→Int)(B B7 KB M SB PB D:Nat)(bar fj:Int)(w V:World):Prop where
 num:V.cell? ⟨D,3,none⟩=some (int i64 fj)
 bar:V.cell? ⟨D,4,none⟩=some (int i64 bar)
 bars:V.cell? ⟨B,3,none⟩=some (int i64 s.bars)
 lw:LenW V s f B7 KB M SB PB len
 below:Below w.heap.size w V
def DQ(N:Act→World→Prop)(E:Nat)(ds:List Deferred)(ok:Bool)(w:World):Exit→Act→World→Prop
 | .normal,a,V=>N a V
 | .panic c,a,V=>c=BQ∧a.tmps.getD 2 undef=.pointer (some ⟨E,0,none⟩)∧a.defers=ds∧ok=false∧Below w.heap.size w V
 | _,_,_=>False
theorem DQ.put{N:Act→World→Prop}{E:Nat}{ds:List Deferred}{ok:Bool}{w:World}{d:Nat}(hd:d≠2){v:Value}:∀(c:List PanicEntry) (a:Act) (V:World),DQ N E ds ok w (.panic c) (a.put (some d) v) V→DQ N E ds ok w (.panic c) a V:=by
 rintro c a V ⟨h1,h2,h3⟩;refine ⟨h1,?_,h3⟩;rw [← h2]
 show a.tmps.getD 2 undef=(a.tmps.setIfInBounds d v).getD 2 undef
 rw [Array.getD_eq_getD_getElem?,Array.getD_eq_getD_getElem?,Array.getElem?_setIfInBounds_ne hd]
theorem R1(s:Ls)(f:Nm→Int)(len:Int→Int)(B E B7 KB M SB PB D:Nat)(bar fj lj:Int)(w W:World)(hS:DanS s f len B B7 KB M SB PB D bar fj w W)(hB:1≤s.bars∧s.bars≤4096)(hK:0≤lj∧lj≤4097)
  (hC:∀V,DanS s f len B B7 KB M SB PB D bar fj w V→Calls Tryd.prog 65 #[int i64 fj,.pointer (some ⟨KB,0,none⟩),.pointer (some ⟨SB,0,none⟩),.pointer (some ⟨B7,0,none⟩)] V λe V'=>e=.returned (int i64 lj)∧DanS s f len B B7 KB M SB PB D bar fj w V') (ok:Bool) (hH:ok=(inB bar 0 (s.bars-1)&&decide (bar+lj≤s.bars)))
  (ds:List Deferred) (N:Act→World→Prop)
  (hN:ok=true→∀(bl bm bn bo bp bq br bs bt bu bv bw bx bz bA bB bC bD bE bF:Value) (V:World),DanS s f len B B7 KB M SB PB D bar fj w V→N { tmps:=#[e0,.pointer (some ⟨B,0,none⟩),.pointer (some ⟨E,0,none⟩),e3,e4,e5,e6,KU KB SB B7,e8,.pointer (some ⟨D,0,none⟩),ea,eb,ec,ed,ee,ef,eg,eh,ei,ej,ek,el,em,en,eo,ep,eq,er,es,et,eu,ev,ew,ex,ey,ez,eA,eB,eC,eD,eE,eF,eG,eH,eI,eJ,eK,eL,eM,eN,eO,eP,eQ,eR,eS,eT,eU,eV,eW,eX,eY,eZ,aa,ab,ac,ae,af,ag,ah,ai,aj,ak,al,am,an,ao,ap,aq,ar,au,av,aw,ax,ay,az,aA,aB,aC,aD,aE,aF,aG,aH,aI,aJ,aK,aL,aM,aN,aO,aP,bl,bm,bn,bo,bp,bq,br,bs,bt,bu,bv,bw,bx,bz,bA,bB,bC,bD,bE,bF,bk],defers:=ds } V) :
  reg23.wp Tryd.prog (DQ N E ds ok w) { tmps:=#[e0,.pointer (some ⟨B,0,none⟩),.pointer (some ⟨E,0,none⟩),e3,e4,e5,e6,KU KB SB B7,e8,.pointer (some ⟨D,0,none⟩),ea,eb,ec,ed,ee,ef,eg,eh,ei,ej,ek,el,em,en,eo,ep,eq,er,es,et,eu,ev,ew,ex,ey,ez,eA,eB,eC,eD,eE,eF,eG,eH,eI,eJ,eK,eL,eM,eN,eO,eP,eQ,eR,eS,eT,eU,eV,eW,eX,eY,eZ,aa,ab,ac,ae,af,ag,ah,ai,aj,ak,al,am,an,ao,ap,aq,ar,au,av,aw,ax,ay,az,aA,aB,aC,aD,aE,aF,aG,aH,aI,aJ,aK,aL,aM,aN,aO,aP,aQ,aR,aS,aT,aU,aV,aW,aX,aY,aZ,ba,bb,bc,bd,be,bf,bg,bh,bi,bj,bk],defers:=ds } W:=by
 obtain ⟨wd,hE⟩:∃wd:World,{ W with drawn:=W.drawn+1 }=wd:=⟨_,rfl⟩;have hA:Below W.heap.size W wd:=by rw [← hE];exact (Below.refl _ _).drew
 have HS:Hid (DanS s f len B B7 KB M SB PB D bar fj w wd):=qh ⟨Ad hA hS.num,Ad hA hS.bar,Ad hA hS.bars,hS.lw.below hA,Ag hS.below hA⟩;have HC:=qh hC;have HN:=qh hN;have hL:=qh hE;have hF:=qh hH;obtain ⟨hM,hO⟩:=hB;obtain ⟨hP,hQ⟩:=hK;have hR:IntKind.i64.wrap (s.bars-1)=s.bars-1:=IntWalk.i64_in _ (by omega);clear hC hN hE hH hS hA
 conv=>arg 2;whnf
 refine wp_region_held (S:=DanS s f len B B7 KB M SB PB D bar fj w) (by kernel_rfl) ?_;rw [hL.out];refine tq 0 _ (.pointer (some ⟨D,4,none⟩)) rfl (by kernel_rfl) (DQ.put (by decide)) (Or.inl ⟨by kernel_rfl,λV hb=>by go_simp⟩) HS.out ?_
 try (simp only [Act.put,List.getElem_toArray,List.getElem_cons_zero,List.setIfInBounds_toArray,List.set_cons_zero,List.set_cons_succ])
 refine tq 1 _ (int i64 bar) rfl (by kernel_rfl) (DQ.put (by decide)) (Or.inl ⟨by kernel_rfl,λV hb=>by have q0:=hb.bar;go_simp⟩) HS.out ?_
 try (simp only [Act.put,qA,qB,qC,qD,qE,qF])
 refine tq 2 _ (.pointer (some ⟨B,3,none⟩)) rfl (by kernel_rfl) (DQ.put (by decide)) (Or.inl ⟨by kernel_rfl,λV hb=>by go_simp⟩) HS.out ?_
 try (simp only [Act.put,qA,qB,qC,qD,qE,qF])
 refine tq 3 _ (int i64 s.bars) rfl (by kernel_rfl) (DQ.put (by decide)) (Or.inl ⟨by kernel_rfl,λV hb=>by have q0:=hb.bars;go_simp⟩) HS.out ?_
 try (simp only [Act.put,qA,qB,qC,qD,qE,qF])
 refine tq 4 _ (int i64 (s.bars-1)) rfl (by kernel_rfl) (DQ.put (by decide)) (Or.inl ⟨by kernel_rfl,λV hb=>by go_simp⟩) HS.out ?_
 try (simp only [Act.put,qA,qB,qC,qD,qE,qF])
 refine wpAnyH_ready (rs:=[5]) (by kernel_rfl) (by simp) ?_;refine AllReadyH.cons (o:=_) rfl (λK1 hD=>?_) AllReadyH.nil;go_simp
 cases hq:inB bar 0 (s.bars-1) with
 | false =>
  have HF:Hid (ok=false):=qh (by rw [hF.out,hq,Bool.false_and]);refine (Df (v:=false) (by assumption) _).mono ?_;rintro e2 w2 ⟨rfl,rfl⟩;refine hD.out _ _ HS.out (λ_=>?_);clear hD K1
  try (simp only [Act.put,qA,qB,qC,qD,qE,qF])
  refine tq 6 _ (.bool false) rfl (by kernel_rfl) (DQ.put (by decide)) (Or.inl ⟨by kernel_rfl,λV hb=>by go_simp⟩) HS.out ?_
  try (simp only [Act.put,qA,qB,qC,qD,qE,qF])
  refine tq 7 _ undef rfl (by kernel_rfl) (DQ.put (by decide)) (Or.inr ⟨by kernel_rfl,rfl⟩) HS.out ?_
  try (simp only [Act.put,qA,qB,qC,qD,qE,qF])
  refine tq 8 _ undef rfl (by kernel_rfl) (DQ.put (by decide)) (Or.inr ⟨by kernel_rfl,rfl⟩) HS.out ?_
  try (simp only [Act.put,qA,qB,qC,qD,qE,qF])
  refine tq 9 _ undef rfl (by kernel_rfl) (DQ.put (by decide)) (Or.inr ⟨by kernel_rfl,rfl⟩) HS.out ?_
  try (simp only [Act.put,qA,qB,qC,qD,qE,qF])
  refine tq 10 _ undef rfl (by kernel_rfl) (DQ.put (by decide)) (Or.inr ⟨by kernel_rfl,rfl⟩) HS.out ?_
  try (simp only [Act.put,qA,qB,qC,qD,qE,qF])
  refine tq 11 _ undef rfl (by kernel_rfl) (DQ.put (by decide)) (Or.inr ⟨by kernel_rfl,rfl⟩) HS.out ?_
  try (simp only [Act.put,qA,qB,qC,qD,qE,qF])
  refine tq 12 _ undef rfl (by kernel_rfl) (DQ.put (by decide)) (Or.inr ⟨by kernel_rfl,rfl⟩) HS.out ?_
  try (simp only [Act.put,qA,qB,qC,qD,qE,qF])
  refine tq 13 _ undef rfl (by kernel_rfl) (DQ.put (by decide)) (Or.inr ⟨by kernel_rfl,rfl⟩) HS.out ?_
  try (simp only [Act.put,qA,qB,qC,qD,qE,qF])
  refine tq 14 _ undef rfl (by kernel_rfl) (DQ.put (by decide)) (Or.inr ⟨by kernel_rfl,rfl⟩) HS.out ?_
  try (simp only [Act.put,qA,qB,qC,qD,qE,qF])
  refine tq 15 _ undef rfl (by kernel_rfl) (DQ.put (by decide)) (Or.inr ⟨by kernel_rfl,rfl⟩) HS.out ?_
  try (simp only [Act.put,qA,qB,qC,qD,qE,qF])
  refine tq 16 _ undef rfl (by kernel_rfl) (DQ.put (by decide)) (Or.inr ⟨by kernel_rfl,rfl⟩) HS.out ?_
  try (simp only [Act.put,qA,qB,qC,qD,qE,qF])
  refine tq 17 _ undef rfl (by kernel_rfl) (DQ.put (by decide)) (Or.inr ⟨by kernel_rfl,rfl⟩) HS.out ?_
  try (simp only [Act.put,qA,qB,qC,qD,qE,qF])
  refine tq 18 _ (.bool false) rfl (by kernel_rfl) (DQ.put (by decide)) (Or.inl ⟨by kernel_rfl,λV hb=>by go_simp⟩) HS.out ?_
  try (simp only [Act.put,qA,qB,qC,qD,qE,qF])
  refine wpAnyH_ready (rs:=[19]) (by kernel_rfl) (by simp) ?_;refine AllReadyH.cons (o:=_) rfl (λK2 hT=>?_) AllReadyH.nil;go_simp;refine (Al _).mono ?_;unfold Aj;rintro e2 w2 ⟨rfl,rfl⟩;exact ⟨rfl,rfl,rfl,HF.out,HS.out.below⟩
 | true =>
  obtain ⟨hU,hV⟩:=AM.1 hq;have hW:IntKind.i64.wrap (bar+lj)=bar+lj:=IntWalk.i64_in _ (by omega);refine (Df (v:=true) (by assumption) _).mono ?_;rintro e2 w2 ⟨rfl,rfl⟩;refine hD.out _ _ HS.out (λ_=>?_);clear hD K1
  try (simp only [Act.put,qA,qB,qC,qD,qE,qF])
  refine tq 6 _ (.bool true) rfl (by kernel_rfl) (DQ.put (by decide)) (Or.inl ⟨by kernel_rfl,λV hb=>by go_simp⟩) HS.out ?_
  try (simp only [Act.put,qA,qB,qC,qD,qE,qF])
  refine tq 7 _ (.pointer (some ⟨D,4,none⟩)) rfl (by kernel_rfl) (DQ.put (by decide)) (Or.inl ⟨by kernel_rfl,λV hb=>by go_simp⟩) HS.out ?_
  try (simp only [Act.put,qA,qB,qC,qD,qE,qF])
  refine tq 8 _ (int i64 bar) rfl (by kernel_rfl) (DQ.put (by decide)) (Or.inl ⟨by kernel_rfl,λV hb=>by have q0:=hb.bar;go_simp⟩) HS.out ?_
  try (simp only [Act.put,qA,qB,qC,qD,qE,qF])
  refine tq 9 _ (KU KB SB B7) rfl (by kernel_rfl) (DQ.put (by decide)) (Or.inl ⟨by kernel_rfl,λV hb=>by go_simp⟩) HS.out ?_
  try (simp only [Act.put,qA,qB,qC,qD,qE,qF])
  refine tq 10 _ (.pointer (some ⟨D,2,none⟩)) rfl (by kernel_rfl) (DQ.put (by decide)) (Or.inl ⟨by kernel_rfl,λV hb=>by go_simp⟩) HS.out ?_
  try (simp only [Act.put,qA,qB,qC,qD,qE,qF])
  refine tq 11 _ (.pointer (some ⟨D,3,none⟩)) rfl (by kernel_rfl) (DQ.put (by decide)) (Or.inl ⟨by kernel_rfl,λV hb=>by go_simp⟩) HS.out ?_
  try (simp only [Act.put,qA,qB,qC,qD,qE,qF])
  refine tq 12 _ (int i64 fj) rfl (by kernel_rfl) (DQ.put (by decide)) (Or.inl ⟨by kernel_rfl,λV hb=>by have q0:=hb.num;go_simp⟩) HS.out ?_
  try (simp only [Act.put,qA,qB,qC,qD,qE,qF])
  refine tq 15 _ (.pointer (some ⟨B,3,none⟩)) rfl (by kernel_rfl) (DQ.put (by decide)) (Or.inl ⟨by kernel_rfl,λV hb=>by go_simp⟩) HS.out ?_
  try (simp only [Act.put,qA,qB,qC,qD,qE,qF])
  refine tq 16 _ (int i64 s.bars) rfl (by kernel_rfl) (DQ.put (by decide)) (Or.inl ⟨by kernel_rfl,λV hb=>by have q0:=hb.bars;go_simp⟩) HS.out ?_
  try (simp only [Act.put,qA,qB,qC,qD,qE,qF])
  refine wpAnyH_ready (rs:=[13]) (by kernel_rfl) (by simp) ?_;refine AllReadyH.cons (o:=_) rfl (λK3 hI=>?_) AllReadyH.nil;go_simp;refine (HC.out _ HS.out).mono ?_;rintro e2 V2 ⟨rfl,hG⟩;refine hI.out _ _ hG (λ_=>?_);clear hI K3 HS;have HS:=qh hG;clear hG
  try (simp only [Act.put,qA,qB,qC,qD,qE,qF])
  refine tq 14 _ (int i64 (bar+lj)) rfl (by kernel_rfl) (DQ.put (by decide)) (Or.inl ⟨by kernel_rfl,λV hb=>by go_simp⟩) HS.out ?_
  try (simp only [Act.put,qA,qB,qC,qD,qE,qF])
  refine tq 17 _ (.bool (decide (bar+lj≤s.bars))) rfl (by kernel_rfl) (DQ.put (by decide)) (Or.inl ⟨by kernel_rfl,λV hb=>by go_simp⟩) HS.out ?_
  try (simp only [Act.put,qA,qB,qC,qD,qE,qF])
  refine tq 18 _ (.bool (decide (bar+lj≤s.bars))) rfl (by kernel_rfl) (DQ.put (by decide)) (Or.inl ⟨by kernel_rfl,λV hb=>by go_simp⟩) HS.out ?_
  try (simp only [Act.put,qA,qB,qC,qD,qE,qF])
  refine wpAnyH_ready (rs:=[19]) (by kernel_rfl) (by simp) ?_;refine AllReadyH.cons (o:=_) rfl (λK4 hJ=>?_) AllReadyH.nil;go_simp;by_cases hd:bar+lj≤s.bars
  ·have HF:Hid (ok=true):=qh (by rw [hF.out,hq,decide_eq_true hd];rfl)
   rw [decide_eq_true hd];refine (Aq _).mono ?_;rintro e2 w2 ⟨rfl,rfl⟩;refine hJ.out _ _ HS.out (λ_=>?_);clear hJ K4
   try (simp only [Act.put,qA,qB,qC,qD,qE,qF])
   refine wpAnyH_done (by kernel_rfl) ?_ _;exact HN.out HF.out _ _ _ _ _ _ _ _ _ _ _ _ _ _ _ _ _ _ _ _ _ HS.out
  ·have HF:Hid (ok=false):=qh (by rw [hF.out,hq,decide_eq_false hd];rfl)
   rw [decide_eq_false hd];refine (Al _).mono ?_;unfold Aj;rintro e2 w2 ⟨rfl,rfl⟩;exact ⟨rfl,rfl,rfl,HF.out,HS.out.below⟩
theorem Tc(s:Ls)(f:Nm→Int)(len:Int→Int)(B E B7 KB M SB PB:Nat)(w W:World)(hs:RgS s f B w)(hb:Below w.heap.size w W)(hL:LenW W s f B7 KB M SB PB len)(hM:w.heap.size≤M)(hI:NumAt f w (An (blk s.da) (off s.da) s.dances))(hC:1≤s.bars∧s.bars≤4096)
  (hP:∀d∈s.dances,∀V,LenW V s f B7 KB M SB PB len→Calls Tryd.prog 65 #[int i64 (f d.pn),.pointer (some ⟨KB,0,none⟩),.pointer (some ⟨SB,0,none⟩),.pointer (some ⟨B7,0,none⟩)] V (JI s f B7 KB M SB PB len (len (f d.pn)) V)) (hJ:∀d∈s.dances,0≤len (f d.pn)∧len (f d.pn)≤4097)
  (_hl:s.dances.length≤100000) (ds:List Deferred) (Q:Exit→Act→World→Prop)
  (hN:s.dances.all (CY s f len)=true→∀(x0 x3 x4 x5 x6 x7 x8 x9 bl bm bn bo bp bq br bs bt bu bv bw bx bz bA bB bC bD bE bF bG bH bI bJ bK bL bM bN bO bP bQ bR bS bT bU bV bW bY bZ ca cb cc cd ce cf cg ch ci cj ck cm cn co cp cq cr cs ct cu cv cw cx cy cz cA cB cC cD cE cF cG cH cI cJ cK cL cM cN cO cP cQ cR cS cT cU cV cW cX cY cZ db dd de dg dh di dj dk dl dm dn dp dq dr dt du dv dw dx dy dz dA:Value) (V:World),Below w.heap.size w V→Q .normal { tmps:=#[x0,.pointer (some ⟨B,0,none⟩),.pointer (some ⟨E,0,none⟩),x3,x4,x5,x6,x7,x8,x9,bl,bm,bn,bo,bp,bq,br,bs,bt,bu,bv,bw,bx,bz,bA,bB,bC,bD,bE,bF,bG,bH,bI,bJ,bK,bL,bM,bN,bO,bP,bQ,bR,bS,bT,bU,bV,bW,bY,bZ,ca,cb,cc,cd,ce,cf,cg,ch,ci,cj,ck,cm,cn,co,cp,cq,cr,cs,ct,cu,cv,cw,cx,cy,cz,cA,cB,cC,cD,cE,cF,cG,cH,cI,cJ,cK,cL,cM,cN,cO,cP,cQ,cR,cS,cT,cU,cV,cW,cX,cY,cZ,db,dd,de,dg,dh,di,dj,dk,dl,dm,dn,dp,dq,dr,dt,du,dv,dw,dx,dy,dz,dA],defers:=ds } V)
  (hO:s.dances.all (CY s f len)=false→∀(t:Array Value) (V:World),t.getD 2 undef=.pointer (some ⟨E,0,none⟩)→Below w.heap.size w V→Q (.panic BQ) { tmps:=t,defers:=ds } V) :
  elem29n10.wp Tryd.prog Q { tmps:=#[e0,.pointer (some ⟨B,0,none⟩),.pointer (some ⟨E,0,none⟩),e3,e4,e5,e6,KU KB SB B7,e8,e9,ea,eb,ec,ed,ee,ef,eg,eh,ei,ej,ek,el,em,en,eo,ep,eq,er,es,et,eu,ev,ew,ex,ey,ez,eA,eB,eC,eD,eE,eF,eG,eH,eI,eJ,eK,eL,eM,eN,eO,eP,eQ,eR,eS,eT,eU,eV,eW,eX,eY,eZ,aa,ab,ac,ae,af,ag,ah,ai,aj,ak,al,am,an,ao,ap,aq,ar,au,av,aw,ax,ay,az,aA,aB,aC,aD,aE,aF,aG,aH,aI,aJ,aK,aL,aM,aN,aO,aP,aQ,aR,aS,aT,aU,aV,aW,aX,aY,aZ,ba,bb,bc,bd,be,bf,bg,bh,bi,bj,bk],defers:=ds } W:=by
 have hS:=hs.below hb;have y6:W.cell? ⟨B,11,none⟩=some (.slice s.da s.dances.length s.dc):=Aa hS.box 11 rfl;have HN:=qh hN;have hf:=qh hO;have HB:=qh hb;have HS:=qh hs;have HL:=qh hL;have hh:=qh hI;have hj:=qh hP;have hm:=qh hJ;have ho:=qh hM;clear hN hO hb hS hs hL hI hP hJ hM;generalize hn:s.dances.length=n at *;have hQ:=qh hn;clear hn
 conv=>arg 2;whnf
 go_wp2_with fail;go_loopw [97] (λiv wr=>∃i:Nat,iv=int i64 i∧i≤n∧Hid (∀d∈s.dances.take i,CY s f len d=true)∧Hid (Below w.heap.size w wr)∧Hid (LenW wr s f B7 KB M SB PB len)) (λiv _=>n+1-(intOf iv).toNat)
 case atStart=>exact ⟨0,rfl,Nat.zero_le _,qh (by simp),HB,HL⟩
 case round =>
  obtain ⟨i,rfl,h1,hR,hB,hq⟩:=hrel;by_cases hr:i<n
  ·have hi:(i:Int)<(n:Int):=by omega
   obtain ⟨d,hd⟩:∃d,s.dances[i]?=some d:=⟨_,qg (by rw [hQ.out];exact hr)⟩;have hF:=List.mem_of_getElem? hd;have hE:=HS.out.below hB.out;have hT:=hh.out.below hB.out;obtain ⟨u1,c0,c1,c2,c3,c4,c5⟩:=Ja hE.at_.dances hT hd;have ht:=hE.at_.dform.resolve_left (λe=>by rw [e] at hd;cases hd);obtain ⟨W2,hU,gW2,bW2,sW2⟩:=Af wr #[sv d.rn,int i64 u1,sv d.pn,int i64 (f d.pn),int i64 d.bar,.bool d.mirror] 62;have y3:W2.cell? ⟨B,3,none⟩=some (int i64 s.bars):=Aa (hE.below bW2).box 3 rfl;have z3:=Aa gW2 3 rfl;have z4:=Aa gW2 4 rfl;have hW:=hq.out.below bW2;have hu:Hid (DanS s f len B B7 KB M SB PB wr.heap.size d.bar (f d.pn) w W2):=qh ⟨z3,z4,y3,hW,Ag hB.out bW2⟩
   have hX:∀V V',DanS s f len B B7 KB M SB PB wr.heap.size d.bar (f d.pn) w V→LenW V' s f B7 KB M SB PB len→V.grownBy V' (some M)→DanS s f len B B7 KB M SB PB wr.heap.size d.bar (f d.pn) w V':=λV V' h hl hg =>
    ⟨BM h.num h.lw.isMap hg,BM h.bar h.lw.isMap hg,BM h.bars h.lw.isMap hg,hl,h.below.grown hg h.below.size (λk hk=>by cases hk;exact ho.out)⟩
   have C:=λV (h:DanS s f len B B7 KB M SB PB wr.heap.size d.bar (f d.pn) w V)=>(hj.out d hF V h.lw).mono λe V' (hp:JI s f B7 KB M SB PB len (len (f d.pn)) V e V')=>(⟨hp.1,hX V V' h hp.2.1 hp.2.2⟩:e=.returned (int i64 (len (f d.pn)))∧DanS s f len B B7 KB M SB PB wr.heap.size d.bar (f d.pn) w V')
   have HC:=qh C;have HX:=qh hd;have hG:=qh (hm.out d hF);clear hd hF hE hT gW2 bW2 sW2 hW C hX y3 z3 z4;have hv:=qh hU;clear hU;generalize hY:s.da=da at *;have h6:=qh hY;clear hY;generalize hw:blk da=fb at *;generalize hy:off da=fo at *;subst ht;clear hw hy;refine Ae (λK1 hK=>?_);have hZ:=qh hK;clear hK;go_wp2_with fail;refine hZ.out _ _ ?_;clear hZ K1;refine Ae (λK2 hK=>?_);have ha:=qh hK;clear hK;go_wp2_with fail;refine ha.out _ _ ?_;clear ha K2;refine Ae (λK3 hK=>?_);have hc:=qh hK;clear hK;refine wp_block ?_;refine Ae (λK4 hK=>?_);have he:=qh hK;clear hK;go_wp2_with fail;refine he.out _ _ ?_;clear he K4;rw [hv.out];change Code.wp Tryd.prog reg23 _ _ _;refine Code.wp_mono (λe a V h=>?_) (R1 s f len B E B7 KB M SB PB wr.heap.size d.bar (f d.pn) (len (f d.pn)) w W2 hu.out hC hG.out HC.out (CY s f len d) rfl ds K3 (λhD=>?_))
   ·cases e with
    | normal=>exact h
    | panic c =>
     obtain ⟨tm,df⟩:=a;obtain ⟨rfl,h2,h3,h4,h5⟩:=h;have h0:df=ds:=h3;subst h0
     have hA:s.dances.all (CY s f len)=false:=by
      rw [← Bool.not_eq_true,List.all_eq_true];intro h;rw [h d (List.mem_of_getElem? HX.out)] at h4;cases h4
     exact hf.out hA tm V h2 h5
    | _=>exact h.elim
   ·intros
    rename_i V hV;refine hc.out _ _ ?_;have HV:=qh hV;have hH:=qh hD;clear hV hD hc K3;go_wp2_with fail;go_roundw
    case rel=>exact ⟨i+1,by go_num,by omega,qh (GX hR.out HX.out hH.out),qh HV.out.below,qh HV.out.lw⟩
    case measure=>simp [intOf];omega
  ·have:i=n:=by omega
   subst this;have hz:¬(i:Int)<(i:Int):=by omega
   have hA:s.dances.all (CY s f len)=true:=List.all_eq_true.2 (λx hx=>hR.out x (by rw [List.take_of_length_le (by rw [hQ.out];exact qn _)];exact hx));have HC:=qh hA;clear hA;go_wp2_with fail;exact HN.out HC.out _ _ _ _ _ _ _ _ _ _ _ _ _ _ _ _ _ _ _ _ _ _ _ _ _ _ _ _ _ _ _ _ _ _ _ _ _ _ _ _ _ _ _ _ _ _ _ _ _ _ _ _ _ _ _ _ _ _ _ _ _ _ _ _ _ _ _ _ _ _ _ _ _ _ _ _ _ _ _ _ _ _ _ _ _ _ _ _ _ _ _ _ _ _ _ _ _ _ _ _ _ _ _ _ _ _ _ _ _ _ _ _ _ _ _ _ _ _ _ _ _ hB.out
def AR(s:Sc)(nm:Nm):Int:=(s.pnames.idxOf nm:Nat)
theorem Eg{s:Sc}{ns:List Int}(h:Dk s ns=0):s.lims=true∧s.named=true∧s.apart=true∧s.kinds=true∧AE s.rnames s.pnames s.refs ns=some ns:=by
 unfold Dk at h
 split at h
 ·rename_i h0
  obtain ⟨h1,h2,h3,_⟩:=Ql h0
  split at h
  ·rename_i hi
   unfold Sc.idx at hi
   split at hi
   ·rename_i hk
    exact ⟨h1,h2,h3,hk,hi⟩
   ·cases hi
  ·omega
 ·contradiction
theorem N0{R P:List Nm}{W:World}:∀{xs:List RefL} {ns:List Int},NsAt W xs ns→AE R P (xs.map RefL.key) ns=some ns→∀x∈xs,∃n,W.cell? ⟨x.b,x.o+1,none⟩=some (int i64 n)∧(x.to=2→x.nm∈P∧n=(P.idxOf x.nm:Nat))
 | [],_,_,_,x,hx=>by cases hx
 | y::ys,[],h,_,_,_=>h.elim
 | y::ys,n::ns,⟨h1,h2⟩,hi,x,hx=>by
  simp only [List.map_cons,AE] at hi
  cases hr:By R P y.key n with
  | none=>rw [hr] at hi;cases hi
  | some k =>
   cases hA:AE R P (ys.map RefL.key) ns with
   | none=>rw [hr,hA] at hi;cases hi
   | some ks =>
    rw [hr,hA] at hi;simp only [Option.some.injEq,List.cons.injEq] at hi;obtain ⟨rfl,rfl⟩:=hi;rcases List.mem_cons.1 hx with rfl|hx
    ·refine ⟨k,h1,λht=>?_⟩
     unfold By RefL.key at hr;simp only [ht] at hr;rw [if_neg (by decide),if_neg (by decide)] at hr
     split at hr
     ·rename_i hm
      cases hr;exact ⟨hm,rfl⟩
     ·cases hr
    ·exact N0 h2 hA x hx
theorem JW{R P:List Nm}:∀{rs:List (Nat×Nm)} {ns ks:List Int},AE R P rs ns=some ks→∀nm,(2,nm)∈rs→nm∈P
 | [],_,_,_,_,h=>by cases h
 | r::rs,[],_,h,_,_=>by cases h
 | r::rs,n::ns,ks,h,nm,hm=>by
  simp only [AE] at h
  cases hr:By R P r n with
  | none=>rw [hr] at h;cases h
  | some k =>
   cases hA:AE R P rs ns with
   | none=>rw [hr,hA] at h;cases h
   | some ks' =>
    rcases List.mem_cons.1 hm with rfl|hm
    ·unfold By at hr
     rw [if_neg (by simp),if_neg (by simp)] at hr
     split at hr
     ·assumption
     ·cases hr
    ·exact JW hA nm hm
theorem N6{s:Ls}{ns:List Int}{W:World}(h:Dk s.strip ns=0)(hN:NsAt W s.refs ns):NumAt (AR s.strip) W s.refs:=λx hx=>by
 obtain ⟨_,_,_,_,hi⟩:=Eg h;rw [← s.refs_key] at hi;obtain ⟨n,h1,h2⟩:=N0 hN hi x hx;exact ⟨n,h1,λht=>(h2 ht).2⟩
theorem IG(f:Nm→Int):∀(t:Its) (u:Int),u∈t.uses f→∃nm,(2,nm)∈t.refs∧u=f nm
 | .nil,_,h=>by cases h
 | .cons k _ un its ms r,u,h=>by
  simp only [Its.uses,List.mem_append] at h;rcases h with h|h|h
  ·split at h
   ·rename_i hk
    simp at h;exact ⟨un,by simp [Its.refs,BC,hk],h⟩
   ·cases h
  ·obtain ⟨nm,h1,h2⟩:=IG f its u h
   exact ⟨nm,by simp [Its.refs,h1],h2⟩
  ·obtain ⟨nm,h1,h2⟩:=IG f r u h
   exact ⟨nm,by simp [Its.refs,h1],h2⟩
theorem N9{s:Sc}{nm:Nm}(h:nm∈s.pnames):∃i:Nat,AR s nm=i∧i<s.phrases.length:=by
 refine ⟨s.pnames.idxOf nm,rfl,?_⟩;have:=List.idxOf_lt_length_iff.2 h;simpa [Sc.pnames] using this
theorem Ks{s:Ls}{ns:List Int}(h:Dk s.strip ns=0):OR s.itsL (AR s.strip):=λt ht u hu=>by
 obtain ⟨_,_,_,_,hi⟩:=Eg h;obtain ⟨nm,h1,rfl⟩:=IG _ t u hu;obtain ⟨p,hp,rfl⟩:=List.mem_map.1 ht
 have hm:(2,nm)∈s.strip.refs:=by
  unfold Sc.refs;exact List.mem_append.2 (Or.inl (List.mem_flatMap.2 ⟨p.strip,List.mem_map.2 ⟨p,hp,rfl⟩,h1⟩))
 obtain ⟨i,h2,h3⟩:=N9 (JW hi nm hm);exact ⟨i,h2,by simpa [Ls.itsL,Ls.strip] using h3⟩
theorem FQ{s:Ls}{ns:List Int}(h:Dk s.strip ns=0){d:Dan}(hd:d∈s.dances):∃i:Nat,AR s.strip d.pn=i∧i<s.phrases.length:=by
 obtain ⟨_,_,_,_,hi⟩:=Eg h
 have hm:(2,d.pn)∈s.strip.refs:=by
  unfold Sc.refs;exact List.mem_append.2 (Or.inr (List.mem_flatMap.2 ⟨d,hd,by simp⟩))
 obtain ⟨i,h2,h3⟩:=N9 (JW hi d.pn hm);exact ⟨i,h2,by simpa [Ls.strip] using h3⟩
theorem FJ{s:Ls}{ns:List Int}(h:Dk s.strip ns=0):s.roles.length≤64∧s.phrases.length≤64∧s.dances.length≤256:=by
 obtain ⟨hl,_⟩:=Eg h;unfold Sc.lims Sc.fit at hl;simp only [Bool.and_eq_true,decide_eq_true_eq] at hl;obtain ⟨⟨h1,_,_,_,h5,h6⟩,_⟩:=hl;simp only [Ls.strip,List.length_map] at h1 h5 h6;exact ⟨h1,h5,h6⟩
def ID(s:Ls)(f:Nm→Int):Bool:=(inB s.wd 1 1000&&inB s.dp 1 1000)&&((inB s.t0 1 127&&inB s.t1 0 s.t0)&&(s.roles.all (Ca s)&&(decide (Cb ⟨s.bars,s.tempos,s.pauses,s.spans⟩=0)&&(s.phrases.all (λp=>p.its.strip.exB)&&(decide (BK (s.nexts f)=[])&&s.dances.all (CY s f (E1 s.itsL f)))))))
def Bj(s:Ls)(ns:List Int):Int:=if Dk s.strip ns=0 then (if ID s (AR s.strip) then 0 else 180) else Dk s.strip ns
def IS(s:Ls)(ns:List Int)(w:World)(e:Ending)(w':World):Prop:=e=.returned (int i64 (Bj s ns))∧Below w.heap.size w w'
theorem Fm{b:Int}{t:List Tmp}{p:List Pau}{c:List Con}(h:Cb ⟨b,t,p,c⟩=0):1≤b∧b≤4096:=by
 unfold Cb at h
 split at h
 ·split at h
  ·rename_i hb
   unfold Eh BL at hb;simp only [Bool.and_eq_true] at hb;exact AM.1 hb.1.1.1.1.1
  ·omega
 ·omega
end
section
open Go.RowKit
def Dy(k:Nat):Bool:=k==1||k==3||k==4||k==9
def Ft(k:Nat):Bool:=k==1||k==2||k==3||k==4||k==5
def Dz(k:Nat):Bool:=k==7||k==8
def Cv(k:Nat):Int:=if k==1||k==2 then 1 else 0
def C8(k:Nat):Int:=if k==3||k==4||k==5||k==9 then 3 else 0
def De(k:Nat):Int:=if k==1||k==2 then 16 else if k==6 then 7 else 0
def FT(k:Nat):List Value:=[.bool (Dy k),.bool (Ft k),.bool (Dz k),int i64 (Cv k),int i64 (C8 k),int i64 (De k)]
structure EnvK(w:World):Prop where
 kinds:∀k,k<10→∀j v,(FT k)[j]?=some v→w.cell? ⟨0,k*6+j,none⟩=some v
theorem EnvK.below{w w':World}(h:EnvK w)(hb:Below w.heap.size w w'):EnvK w' where
 kinds k hk j v hv:=by
  have h1:=h.kinds k hk j v hv;exact (hb.cell (p:=⟨0,k*6+j,none⟩) (ER h1)).trans h1
theorem AX(n lo hi:Int)(w:World):Calls Tryd.prog 16 #[int i64 n,int i64 lo,int i64 hi] w λe w'=>e=.returned (.bool (inB n lo hi))∧w=w':=by
 go_enter Tryd.func16,Tryd.ntmps16;go_wp2
 all_goals
  go_ret;refine ⟨AG ?_,rfl⟩;unfold inB;rw [Bool.eq_iff_iff];simp;omega
theorem DP(n:Int)(u:Bool)(lo hi:Int)(w:World):Calls Tryd.prog 35 #[int i64 n,.bool u,int i64 lo,int i64 hi] w λe w'=>e=.returned (.bool (Ct n u lo hi))∧w=w':=by
 cases u with
 | false =>
  go_enter Tryd.func35,Tryd.ntmps35
  go_wp2_with (go_at_call 16;refine (AX _ _ _ _).mono ?_;rintro e w' ⟨rfl,rfl⟩);go_ret;exact ⟨AG (by unfold Ct;rw [Bool.eq_iff_iff];simp),rfl⟩
 | true =>
  go_enter Tryd.func35,Tryd.ntmps35
  go_wp2_with (go_at_call 16;refine (AX _ _ _ _).mono ?_;rintro e w' ⟨rfl,rfl⟩);go_ret;exact ⟨AG (by unfold Ct;simp),rfl⟩
theorem Ej(a b c d:Int)(w:World):(binOp .eql 41 (.agg #[int i64 a,int i64 b]) (.agg #[int i64 c,int i64 d])).run Tryd.prog w=.ok (.bool (a==c&&b==d)) w:=by
 have u3:=Tryd.underlying3;have a3:=Tryd.isAgg3;have z3:=Tryd.sizeOf3;have hS:Tryd.prog.underlying 41=some (.struct (Tryd.prog.fieldsOf 41)):=by kernel_rfl
 have hp:Tryd.prog.stoodInHeld 41=false:=by kernel_rfl
 rw [run_eql_struct,show (10000:Nat)=9999+1 from rfl,run_equalIn_agg w 9999 41 _ _ hS hp];simp only [Program.fieldsOf,Tryd.underlying41];go_simp;by_cases h1:a=c<;>by_cases h2:b=d<;>simp [h1,h2]
end
end Go.Proofs.YtbkemlgfdklpfaaDoor
