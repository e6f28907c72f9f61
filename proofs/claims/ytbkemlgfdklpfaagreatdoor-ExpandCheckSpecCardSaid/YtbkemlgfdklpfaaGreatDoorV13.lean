/- Contracts and plain laws on the way to the statement: part 13. -/
import Derived.Test.YtbkemlgfdklpfaaGreatDoorV8
import Derived.Test.YtbkemlgfdklpfaaGreatDoorV11
import Derived.Test.YtbkemlgfdklpfaaGreatDoorV4
set_option linter.unusedVariables false
set_option linter.unusedSimpArgs false
set_option maxRecDepth 100000
set_option maxHeartbeats 16000000
namespace Go.Proofs.YtbkemlgfdklpfaaGreatDoor
open Go.Value (int)
open Go.IntKind (i64)
section
open Go Go.RowKit
theorem Rc(nm:Nm)(wd dp bars t0 t1:Int)(ra ta ua sa fa da:Option Addr)(rc tc uc sc fc dc nR nT nU nS nP nD:Nat)(w:World)
  (hl:nR≤maxLen∧nT≤maxLen∧nU≤maxLen∧nS≤maxLen∧nP≤maxLen∧nD≤maxLen)
  (h:¬(nR≤64∧nT≤4096∧nU≤4096∧nS≤256∧nP≤64∧nD≤256)) :
  Calls Tryz.prog 119 #[.agg #[sv nm,int i64 wd,int i64 dp,int i64 bars,int i64 t0,int i64 t1,.slice ra nR rc,.slice ta nT tc,.slice ua nU uc,.slice sa nS sc,.slice fa nP fc,.slice da nD dc]] w λe w'=>e=Ak 2∧Below w.heap.size w w':=by
 have HB:=qh ((Below.refl w.heap.size w).alloc (qn _) (.cells #[sv nm,int i64 wd,int i64 dp,int i64 bars,int i64 t0,int i64 t1,.slice ra nR rc,.slice ta nT tc,.slice ua nU uc,.slice sa nS sc,.slice fa nP fc,.slice da nD dc] 30));obtain ⟨l1,l2,l3,l4,l5,l6⟩:=hl;unfold maxLen at l1 l2 l3 l4 l5 l6;by_cases h1:(nR:Int)≤64
 ·by_cases ho:nT<nU
  ·by_cases h2:(nU:Int)≤4096
   ·by_cases h3:(nS:Int)≤256
    ·by_cases h4:(nP:Int)≤64
     ·by_cases h5:(nD:Int)≤256
      ·omega
      ·go_enter Tryz.func119,Tryz.ntmps119
       go_wp2_with (go_at_call 126;refine (AE _ _).mono ?_;unfold Ak;rintro e w' ⟨rfl,rfl⟩);exact ⟨rfl,rfl,HB.out⟩
     ·go_enter Tryz.func119,Tryz.ntmps119
      go_wp2_with (go_at_call 126;refine (AE _ _).mono ?_;unfold Ak;rintro e w' ⟨rfl,rfl⟩);exact ⟨rfl,rfl,HB.out⟩
    ·go_enter Tryz.func119,Tryz.ntmps119
     go_wp2_with (go_at_call 126;refine (AE _ _).mono ?_;unfold Ak;rintro e w' ⟨rfl,rfl⟩);exact ⟨rfl,rfl,HB.out⟩
   ·go_enter Tryz.func119,Tryz.ntmps119
    go_wp2_with (go_at_call 126;refine (AE _ _).mono ?_;unfold Ak;rintro e w' ⟨rfl,rfl⟩);exact ⟨rfl,rfl,HB.out⟩
  ·by_cases h2:(nT:Int)≤4096
   ·by_cases h3:(nS:Int)≤256
    ·by_cases h4:(nP:Int)≤64
     ·by_cases h5:(nD:Int)≤256
      ·omega
      ·go_enter Tryz.func119,Tryz.ntmps119
       go_wp2_with (go_at_call 126;refine (AE _ _).mono ?_;unfold Ak;rintro e w' ⟨rfl,rfl⟩);exact ⟨rfl,rfl,HB.out⟩
     ·go_enter Tryz.func119,Tryz.ntmps119
      go_wp2_with (go_at_call 126;refine (AE _ _).mono ?_;unfold Ak;rintro e w' ⟨rfl,rfl⟩);exact ⟨rfl,rfl,HB.out⟩
    ·go_enter Tryz.func119,Tryz.ntmps119
     go_wp2_with (go_at_call 126;refine (AE _ _).mono ?_;unfold Ak;rintro e w' ⟨rfl,rfl⟩);exact ⟨rfl,rfl,HB.out⟩
   ·go_enter Tryz.func119,Tryz.ntmps119
    go_wp2_with (go_at_call 126;refine (AE _ _).mono ?_;unfold Ak;rintro e w' ⟨rfl,rfl⟩);exact ⟨rfl,rfl,HB.out⟩
 ·go_enter Tryz.func119,Tryz.ntmps119
  go_wp2_with (go_at_call 126;refine (AE _ _).mono ?_;unfold Ak;rintro e w' ⟨rfl,rfl⟩);exact ⟨rfl,rfl,HB.out⟩
end
section
open Go Go.RowKit
def Ab:Nat→Code→Code
 | 0,c=>c
 | k+1,.seq _ b=>Ab k b
 | _,c=>c
def qe(k:Nat)(c:Code):Code:=match Ab k c with
 | .seq a _=>a
 | c=>c
def Dl:Nat→Code→Code→Code
 | 0,_,x=>x
 | k+1,.seq a b,x=>.seq a (Dl k b x)
 | _,c,_=>c
theorem DU(w:World)(x:Value)(t:TypeId):∃w',w.alloc (.cells #[x] t)=w'∧w'.heap[w.heap.size]?=some (.cells #[x] t (0,0))∧Below w.heap.size w w'∧w'.heap.size=w.heap.size+1 :=
 ⟨_,rfl,heap_alloc_new w _,(Below.refl _ w).alloc (qn _) _,by simp⟩
theorem Ek(P:Program)(w:World)(a:Addr)(m:Mode)(f:Fn)(cs bs:Array Value):(store a (.func f cs bs) m).run P w=stored P w a (.func f cs bs) m:=run_store P w a _ m rfl
attribute [local go_sem] Ek
theorem Bp{w:World}{g:Nat}{x:Value}{t:TypeId}(h:w.heap[g]?=some (.cells #[x] t (0,0)))(v:Value):∃w',w.setCell ⟨g,0,none⟩ v=w'∧w'.heap[g]?=some (.cells #[v] t (0,0))∧(∀q,q≠g→w'.heap[q]?=w.heap[q]?)∧(∀B w0,Below B w0 w→B≤g→Below B w0 w')∧w'.heap.size=w.heap.size:=by
 refine ⟨_,rfl,?_,λq hq=>Below.heap_setCell _ _ _ _ hq,λB w0 hb hg=>hb.setCell (p:=⟨g,0,none⟩) hg v,?_⟩
 ·simp only [World.setCell,Array.getElem?_modify,h,if_true,Option.map_some]
  simp
 ·simp [World.setCell]
def Vd(r:Option Int)(W:World)(e:Ending)(W':World):Prop :=
 ((∃l,r=some l∧e=.returned (.tuple #[]))∨(r=none∧e=Ak 2))∧Below W.heap.size W W'
theorem Km(p:Phr)(r:List Phr)(left:Int):countP (p::r) left=(match p.items.countL 1 left with|none=>none|some l=>countP r l):=by
 rw [countP];cases p.items.countL 1 left<;>rfl
noncomputable def LB:Code:=(Tryz.f119.body).getD .skip
noncomputable def part38n3:Code:=Ab 3 LB
theorem Pu(ps:List Ph)(ks:List Int)(cs:Array Value)(fa:Option Addr)(fc B:Nat)(W:World)(hB:W.heap[B]?=some (.cells cs 30 (0,0)))(hT:cs[10]?=some (.slice fa ps.length fc))(hn:ps.length≤64)
  (hA:ps=[]∨fa=some ⟨blk fa,off fa,none⟩) (hU:Bk W (blk fa) (off fa) ps) (hN:NsAt W (Ar ps) ks)
  (e0 e2 e3 e4 e5 e6 e7 e8 e9 ea eb ec ed ee ef eg eh ei ej ek el em en eo ep eq er es et eu ev ew ex ey ez eA eB eC eD eE eF eG eH eI eJ eK eL eM eN eO eP eQ eR:Value) :
  part38n3.wp Tryz.prog (bodyPost Tryz.prog Tryz.f119 (Vd (countP (ps.map Ph.strip) 4096) W)) { tmps:=#[e0,.pointer (some ⟨B,0,none⟩),e2,e3,e4,e5,e6,e7,e8,e9,ea,eb,ec,ed,ee,ef,eg,eh,ei,ej,ek,el,em,en,eo,ep,eq,er,es,et,eu,ev,ew,ex,ey,ez,eA,eB,eC,eD,eE,eF,eG,eH,eI,eJ,eK,eL,eM,eN,eO,eP,eQ,eR],defers:=[] } W:=by
 have he:=(qs.1 hB).1;obtain ⟨W1,x1,g1,b1,s1⟩:=DU W (int i64 4096) 3;obtain ⟨W2,x2,g2,b2,s2⟩:=DU W1 .nilFunc 216;obtain ⟨W3,x3,g3,o3,b3,s3⟩:=Bp g2 (.func (.func 147) #[] #[.pointer (some ⟨W.heap.size,0,none⟩),.pointer (some ⟨W1.heap.size,0,none⟩)]);have hM:Below W.heap.size W W3:=b3 _ _ (b1.trans (b2.mono (by omega))) (by omega);have hI:CntW W.heap.size W1.heap.size 4096 W3:=⟨(o3 _ (by omega)).trans ((b2.block _ (by omega)).trans g1),g3⟩;have k2:W2.cell? ⟨W1.heap.size,0,none⟩=some .nilFunc:=Aa g2 0 rfl;have f2:W2.frozen? ⟨W1.heap.size,0,none⟩=false:=by simp [World.frozen?,g2]
 have k3:W3.cell? ⟨B,10,none⟩=some (.slice fa ps.length fc):=Aa ((hM.block _ he).trans hB) 10 hT;have HC:=qh hI;have hf:=qh hM;have hg:=qh hU;have HN:=qh hN;generalize hF:countP (ps.map Ph.strip) 4096=res;have hO:=qh hF;clear hI hM o3 b3 b1 b2 g1 g2 g3 hB hT hU hN hF;rw [s1] at k2 f2 x3 HC;generalize hG:ps.length=n at *;have hV:=qh hG;have HF:=qh hA;clear hG hA;unfold part38n3 LB
 conv=>arg 2;whnf
 go_wp2_with fail;go_loopw [45] (λiv wr=>∃(i:Nat) (R:List Ph) (l:Int) (js:List Int),iv=int i64 i∧i+R.length=n∧Hid (countP (R.map Ph.strip) l=res)∧Hid (Bk W (blk fa) (off fa+i*2) R)∧Hid (NsAt W (Ar R) js)∧Hid (CntW W.heap.size (W.heap.size+1) l wr)∧0≤l∧l≤4096∧Hid (Below W.heap.size W wr)) (λiv _=>n+1-(intOf iv).toNat)
 case atStart=>exact ⟨0,ps,4096,ks,rfl,by rw [hV.out];omega,hO,by simpa [Hid] using hg.out,HN,HC,by omega,by omega,hf⟩
 case round =>
  obtain ⟨i,R,l,js,rfl,hW,hD,hR,hX,hC,hh,hj,hH⟩:=hrel
  cases R with
  | nil =>
   simp only [List.length_nil] at hW;obtain rfl:i=n:=by omega
   have hc:=hD.out;simp only [List.map_nil,countP] at hc;go_wp2_with fail;go_end0;exact ⟨Or.inl ⟨l,hc.symm,rfl⟩,hH.out⟩
  | cons p r =>
   simp only [List.length_cons] at hW;have hi:(i:Int)<(n:Int):=by omega
   obtain ⟨⟨q0,q1,qf,ql,qA⟩,hr⟩:=hR.out;obtain ⟨j1,j2,rfl,hY,hZ⟩:=NsAt.split (xs:=p.refsL) hX.out;have hk:fa=some ⟨blk fa,off fa,none⟩:=HF.out.resolve_left (by intro e;have:=hV.out;rw [e] at this;simp at this;omega);have hJ:=hD.out;simp only [List.map_cons] at hJ;rw [Km] at hJ;have p0:=Ad hH.out q0;have p1:=Ad hH.out q1;unfold Ph.val at p1;obtain ⟨w2,ha⟩:∃w2,wr.alloc (.cells #[sv p.name,.slice p.ia p.its.len p.ic] 58)=w2:=⟨_,rfl⟩;have hP:Below wr.heap.size wr w2:=by rw [← ha];exact (Below.refl _ _).alloc (qn _) _
   have c1:w2.cell? ⟨wr.heap.size,1,none⟩=some (.slice p.ia p.its.len p.ic):=by rw [← ha];exact Aa (heap_alloc_new wr _) 1 rfl
   have cw2:=hC.out.keep hP;have cc2:=cell_of_one cw2.bc;have hK:=hH.out.trans (hP.mono hH.out.size);have hb:∀c∈p.its.blocks,c<W.heap.size:=qA.blocks_lt
   have hQ:=No W.heap.size (W.heap.size+1) _ p.its (qn _) p.ia p.ic 1 l j1 w2 (by omega) ql (by
     by_cases hz:p.its.len=0
     ·exact Or.inl hz
     ·exact Or.inr ⟨qf.resolve_left hz,by have:=qA.lt hz;omega⟩) (λh=>by have:=hb _ h;omega) (qA.below hK) (hY.below hK) cw2 hh hj
   have h1:((1:Nat):Int)=1:=rfl;rw [h1] at hQ;have hl:=qh hQ;have hm:=qh hr;have ho:=qh hZ;have hL:=qh hK;have hd:=qh hJ;generalize hs:blk fa=fb at *;generalize ht:off fa=fo at *;subst hk;clear hR hX hQ hr hY hZ hK hJ q0 q1 qA hP cw2 h1 hb qf hD
   go_wp2_with (go_at_call 147;refine hl.out.mono ?_;unfold Gm Ak;rintro e w3 (⟨l2,e2,hp,hq,rfl,hI,hS⟩|⟨e2,rfl,hS⟩))
   ·have hE:=hd.out
    simp only [Ph.strip] at hE;rw [e2] at hE;go_roundw
    case rel=>exact ⟨i+1,r,l2,j2,by go_num,by omega,qh hE,qh (by rw [Nat.add_mul,Nat.one_mul,← Nat.add_assoc];exact hm.out),ho,qh hI,hp,hq,qh (hL.out.trans (hS.below (qn _) hL.out.size))⟩
    case measure=>simp [intOf];omega
   ·have hE:=hd.out
    simp only [Ph.strip] at hE;rw [e2] at hE;exact ⟨rfl,Or.inr ⟨hE.symm,rfl⟩,hL.out.trans (hS.below (qn _) hL.out.size)⟩
end
section
open Go Go.RowKit
def St(s:Sc)(W:World)(e:Ending)(W':World):Prop :=
 ((s.lims=true∧e=.returned (.tuple #[]))∨(s.lims=false∧e=Ak 2))∧Below W.heap.size W W'
theorem JE{s:Sc}:s.fit=true↔s.roles.length≤64∧s.tempos.length≤4096∧s.pauses.length≤4096∧s.spans.length≤256∧s.phrases.length≤64∧s.dances.length≤256:=by
 unfold Sc.fit;simp
theorem Kh{P:Program}{fn:Func}{R R':Ending→World→Prop}(hr:∀e w,R e w→R' e w):∀(e:Exit) (a:Act) (w:World),bodyPost P fn R e a w→bodyPost P fn R' e a w
 | .normal,_,_,⟨h1,v,h2,h3⟩=>⟨h1,v,h2,hr _ _ h3⟩
 | .ret,_,_,⟨h1,v,h2,h3⟩=>⟨h1,v,h2,hr _ _ h3⟩
 | .panic _,_,_,⟨h1,h2⟩=>⟨h1,hr _ _ h2⟩
 | .outgrown,_,_,h=>hr _ _ h
 | .exit _,_,_,h=>h.elim
 | .goto _,_,_,h=>h.elim
theorem Pt(nm:Nm)(wd dp bars t0 t1:Int)(ra ta ua sa fa da:Option Addr)(rc tc uc sc fc dc nR nT nU nS nP nD:Nat)(w:World)
  (ps:List Ph) (ks:List Int) (hB:ps.length=nP) (hA:ps=[]∨fa=some ⟨blk fa,off fa,none⟩) (hC:Bk w (blk fa) (off fa) ps) (hN:NsAt w (Ar ps) ks)
  (h:nR≤64∧nT≤4096∧nU≤4096∧nS≤256∧nP≤64∧nD≤256) :
  Calls Tryz.prog 119 #[.agg #[sv nm,int i64 wd,int i64 dp,int i64 bars,int i64 t0,int i64 t1,.slice ra nR rc,.slice ta nT tc,.slice ua nU uc,.slice sa nS sc,.slice fa nP fc,.slice da nD dc]] w λe w' =>
   ((∃l,countP (ps.map Ph.strip) 4096=some l∧e=.returned (.tuple #[]))∨(countP (ps.map Ph.strip) 4096=none∧e=Ak 2))∧Below w.heap.size w w':=by
 obtain ⟨l1,l2,l3,l4,l5,l6⟩:=h;have hb:=(Below.refl w.heap.size w).alloc (qn _) (.cells #[sv nm,int i64 wd,int i64 dp,int i64 bars,int i64 t0,int i64 t1,.slice ra nR rc,.slice ta nT tc,.slice ua nU uc,.slice sa nS sc,.slice fa nP fc,.slice da nD dc] 30);have g0:=heap_alloc_new w (.cells #[sv nm,int i64 wd,int i64 dp,int i64 bars,int i64 t0,int i64 t1,.slice ra nR rc,.slice ta nT tc,.slice ua nU uc,.slice sa nS sc,.slice fa nP fc,.slice da nD dc] 30);have hl:=Pu ps ks _ fa fc w.heap.size _ g0 (by rw [hB];rfl) (by omega) hA (Bd hb hC) (hN.below hb);have HL:=qh hl;have HB:=qh hb;have h1:(nR:Int)≤64:=by omega
 have h2:(nU:Int)≤4096:=by omega
 have hD:(nT:Int)≤4096:=by omega
 have h3:(nS:Int)≤256:=by omega
 have h4:(nP:Int)≤64:=by omega
 have h5:(nD:Int)≤256:=by omega
 clear hl hb g0 hB hA hC hN;by_cases ho:nT<nU
 all_goals
  go_enter Tryz.func119,Tryz.ntmps119;change Code.wp Tryz.prog (Dl 3 LB part38n3) _ _ _
  conv=>arg 2;whnf
  go_wp2_with (go_at_call 126;refine (Bv _ _).mono ?_;rintro e w' ⟨rfl,rfl⟩)
  conv=>arg 2;whnf
  go_wp2_with (go_at_call 126;refine (Bv _ _).mono ?_;rintro e w' ⟨rfl,rfl⟩)
  conv=>arg 2;whnf
  go_wp2_with (go_at_call 126;refine (Bv _ _).mono ?_;rintro e w' ⟨rfl,rfl⟩);refine wp_mono (HL.out _ _ _ _ _ _ _ _ _ _ _ _ _ _ _ _ _ _ _ _ _ _ _ _ _ _ _ _ _ _ _ _ _ _ _ _ _ _ _ _ _ _ _ _ _ _ _ _ _ _ _ _ _) ?_
  exact Kh λe w' h=>⟨h.1,HB.out.trans (h.2.mono HB.out.size)⟩
theorem Rb(s:Ls)(ks:List Int)(w:World)(h:s.At w)(hN:NsAt w s.refs ks):Calls Tryz.prog 119 #[s.val] w (St s.strip w):=by
 obtain ⟨k1,k2,rfl,hk,_⟩:=NsAt.split (xs:=Ar s.phrases) hN;by_cases hf:s.strip.fit=true
 ·have hA:=JE.1 hf
  simp only [Ls.strip,List.length_map] at hA;refine (Pt s.name s.wd s.dp s.bars s.t0 s.t1 s.ra s.ta s.ua s.sa s.fa s.da s.rc s.tc s.uc s.sc s.fc s.dc _ _ _ _ _ _ w s.phrases k1 rfl h.pform h.phrases hk hA).mono ?_;rintro e w' ⟨h1,h2⟩;refine ⟨?_,h2⟩;unfold Sc.lims;rw [hf];rcases h1 with ⟨l,e1,e2⟩|⟨e1,e2⟩
  ·exact Or.inl ⟨by simp only [Ls.strip];rw [e1];rfl,e2⟩
  ·exact Or.inr ⟨by simp only [Ls.strip];rw [e1];rfl,e2⟩
 ·have hA:¬_:=λhh=>hf (JE.2 hh)
  simp only [Ls.strip,List.length_map] at hA;obtain ⟨_,_,q1,q1',_⟩:=h.roles;obtain ⟨_,_,q2,q2',_⟩:=h.tempos;obtain ⟨_,_,q3,q3',_⟩:=h.pauses;obtain ⟨_,_,q4,q4',_⟩:=h.spans;refine (Rc s.name s.wd s.dp s.bars s.t0 s.t1 s.ra s.ta s.ua s.sa s.fa s.da s.rc s.tc s.uc s.sc s.fc s.dc _ _ _ _ _ _ w ⟨q1',q2',q3',q4',h.plen,h.dlen⟩ hA).mono ?_;rintro e w' ⟨rfl,h2⟩;exact ⟨Or.inr ⟨by unfold Sc.lims;rw [show s.strip.fit=false by simpa using hf];rfl,rfl⟩,h2⟩
end
end Go.Proofs.YtbkemlgfdklpfaaGreatDoor
