/- Contracts and plain laws on the way to the statement: part 26. -/
import Derived.Test.YtbkemlgfdklpfaaGreatDoorV24
import Derived.Test.YtbkemlgfdklpfaaGreatDoorV14
import Derived.Test.YtbkemlgfdklpfaaGreatDoorV25
import Derived.Test.YtbkemlgfdklpfaaGreatDoorV17
import Derived.Test.YtbkemlgfdklpfaaGreatDoorV4
set_option autoImplicit true
set_option relaxedAutoImplicit true
set_option linter.unusedVariables false
set_option linter.unusedSimpArgs false
set_option maxRecDepth 100000
set_option maxHeartbeats 16000000
namespace Go.Proofs.YtbkemlgfdklpfaaGreatDoor
open Go.Value (int)
open Go.IntKind (i64)
section
open Go Go.RowKit
theorem Eh{rn pn:List Nm}:∀{rs:List (Nat×Nm)} {ns ks:List Int},Ay rn pn rs ns=some ks→ns.length=rs.length∧ks.length=rs.length
 | [],[],ks,h=>by simp [Ay] at h;subst h;exact ⟨rfl,rfl⟩
 | [],_::_,_,h=>by simp [Ay] at h
 | _::_,[],_,h=>by simp [Ay] at h
 | r::rs,n::ns,ks,h=>by
  unfold Ay at h
  split at h
  ·rename_i k ks' h1 h2
   obtain ⟨e1,e2⟩:=Eh h2;simp only [Option.some.injEq] at h;subst h;simp [e1,e2]
  ·cases h
theorem Eg{rn pn:List Nm}:∀{A:List (Nat×Nm)} {n1:List Int} (B:List (Nat×Nm)) (n2:List Int),n1.length=A.length→Ay rn pn (A++B) (n1++n2)=match Ay rn pn A n1,Ay rn pn B n2 with|some k1,some k2=>some (k1++k2)|_,_=>none
 | [],[],B,n2,_=>by
  simp only [List.nil_append,Ay];cases Ay rn pn B n2<;>rfl
 | r::A,n::n1,B,n2,h=>by
  have ih:=Eg (rn:=rn) (pn:=pn) (A:=A) (n1:=n1) B n2 (by simpa using h);simp only [List.cons_append,Ay,ih];cases Bt rn pn r n<;>cases Ay rn pn A n1<;>cases Ay rn pn B n2<;>rfl
 | [],_::_,_,_,h=>by simp at h
 | _::_,[],_,_,h=>by simp at h
theorem Fu{rn pn:List Nm}{A:List (Nat×Nm)}{n1 ks:List Int}{r:Nat×Nm}{m k:Int}(h:Ay rn pn A n1=some ks)(hk:Bt rn pn r m=some k):Ay rn pn (A++[r]) (n1++[m])=some (ks++[k]):=by
 rw [Eg _ _ (Eh h).1,h];simp [Ay,hk]
theorem KT{rn pn:List Nm}{A B:List (Nat×Nm)}{n1 n2 ks:List Int}{r:Nat×Nm}{m:Int}(h:Ay rn pn A n1=some ks)(hk:Bt rn pn r m=none):Ay rn pn (A++r::B) (n1++m::n2)=none:=by
 rw [Eg _ _ (Eh h).1,h];simp [Ay,hk]
theorem Nv(k:Int):By k≤2:=by unfold By;split<;>omega
theorem PC(k:Int):Dh k≤2:=by unfold Dh;split<;>omega
theorem I9{b:Nat}:∀{o:Nat} {ms:List Mov} {r:RefL},r∈As b o ms→r.to≤2
 | _,[],_,h=>by cases h
 | o,m::ms,r,h=>by
  rcases List.mem_cons.1 h with rfl|h
  ·exact PC _
  ·exact I9 h
theorem Lt.refs_to:∀{T:Lt} {b o:Nat} {r:RefL},r∈T.refsL b o→r.to≤2
 | .nil,_,_,_,h=>by cases h
 | .cons k n un ia ic its ma mc ms rest,b,o,r,h=>by
  simp only [Lt.refsL,List.mem_cons,List.mem_append] at h;rcases h with rfl|h|h|h
  ·exact Nv _
  ·exact I9 h
  ·exact Lt.refs_to h
  ·exact Lt.refs_to h
theorem Ls.refs_to{s:Ls}{r:RefL}(h:r∈s.refs):r.to≤2:=by
 rcases List.mem_append.1 h with h|h
 ·generalize s.phrases=ps at h
  induction ps with
  | nil=>cases h
  | cons p ps ih =>
   simp only [Ar,List.mem_append] at h;rcases h with h|h
   ·exact Lt.refs_to h
   ·exact ih h
 ·generalize s.dances=ds at h
  generalize off s.da=o at h
  induction ds generalizing o with
  | nil=>cases h
  | cons d ds ih =>
   simp only [Ao,List.mem_cons] at h;rcases h with rfl|rfl|h
   ·show 1≤2;omega
   ·show 2≤2;omega
   ·exact ih _ h
def kI(k:Int):Value:=int i64 k
theorem Bz:KeyOf (.int .i64) kI:=⟨λ_=>rfl,λa b h=>by unfold kI at h;injection h⟩
structure ResC where
 x:Ls
 ns:List Int
 w:World
 X:Nat
 E:Nat
 kB:Nat
 TB:Nat
 MT:Nat
 mR:Nat
 mP:Nat
 rn:List Nm
 pn:List Nm
 Bl:Nat
structure ResQ(c:ResC)(pre:List RefL)(V:World):Prop where
 bx:V.heap[c.X]?=some (.cells c.x.cells 30 (0,0))
 be:V.heap[c.E]?=some (.cells #[int i64 0] 40 (0,0))
 bk:V.cell? ⟨c.kB,0,none⟩=some (.pointer (some ⟨c.X,0,none⟩))
 tb:V.cell? ⟨c.TB,0,none⟩=some (.map (some c.MT))
 mt:∃kvs:List (Int×Value),MapAt kI V c.MT kvs∧Au kvs 1=some (.map (some c.mR))∧Au kvs 2=some (.map (some c.mP))
 mr:MapAt sv V c.mR (BB c.rn)
 mp:MapAt sv V c.mP (BB c.pn)
 ph:Bk V (blk c.x.fa) (off c.x.fa) c.x.phrases
 da:Bw V (blk c.x.da) (off c.x.da) c.x.dances
 refs:∃ks rest n1 js,c.x.refs=pre++rest∧c.ns=n1++js∧Ay c.rn c.pn (pre.map RefL.key) n1=some ks∧NsAt V pre ks∧NsAt V rest js
 free:∀r∈c.x.refs,FreeB V r.b
 base:Below c.w.heap.size c.w V
structure ResK(c:ResC):Prop where
 sep:c.x.Sep
 ne:∀r∈c.x.refs,r.b≠c.X∧r.b≠c.E∧r.b≠c.kB∧r.b≠c.TB∧c.w.heap.size≤r.b
 rn:c.rn.Nodup
 pn:c.pn.Nodup
def ResI(c:ResC)(pre:List RefL)(W:World):Prop:=∃V,V.heap.size=c.Bl∧ResQ c pre V∧Below c.Bl V W
def N7(c:ResC)(W:World):Prop:=(c.x.strip.kinds=false∨Ay c.rn c.pn (c.x.refs.map RefL.key) c.ns=none)∧∃pre,ResI c pre W
theorem ResI.keep{c:ResC}{pre:List RefL}{W W':World}(h:ResI c pre W)(hb:Below c.Bl W W'):ResI c pre W':=by
 obtain ⟨V,h1,h2,h3⟩:=h;exact ⟨V,h1,h2,h3.trans hb⟩
theorem Oh{B:Nat}{V W:World}(h:Below B V W)(p:Addr)(v:Value):Below B (V.setCell p v) (W.setCell p v):=by
 refine ⟨h.os,h.tape,h.output,by simpa [World.setCell] using h.size,λk hk=>?_⟩;by_cases e:p.block=k
 ·subst e
  simp only [World.setCell,Array.getElem?_modify,if_true];rw [h.block _ hk]
 ·rw [Below.heap_setCell _ _ _ _ (λe2=>e e2.symm),Below.heap_setCell _ _ _ _ (λe2=>e e2.symm)]
  exact h.block _ hk
theorem Lu{B:Nat}(W:World)(p:Addr)(v:Value)(h:p.block<B):Beyond B W (W.setCell p v) :=
 ⟨by simp [World.setCell],λb hb _ _=>Below.heap_setCell _ _ _ _ (by omega)⟩
theorem ResQ.next{c:ResC}{pre rest:List RefL}{r:RefL}{V:World}(h:ResQ c pre V)(hs:c.x.refs=pre++r::rest) :
  ∃m ks n1 js,V.cell? ⟨r.b,r.o+1,none⟩=some (int i64 m)∧V.cell? ⟨r.b,r.o,none⟩=some (sv r.nm)∧c.ns=n1++m::js∧Ay c.rn c.pn (pre.map RefL.key) n1=some ks∧NsAt V pre ks∧NsAt V (r::rest) (m::js)∧r∈c.x.refs∧FreeB V r.b∧r.to≤2:=by
 obtain ⟨ks,rest',n1,js,e1,e2,e3,e4,e5⟩:=h.refs;have hr:rest'=r::rest:=List.append_cancel_left (e1.symm.trans hs);subst hr;have hm:r∈c.x.refs:=by rw [hs];simp
 cases js with
 | nil=>exact e5.elim
 | cons m js=>exact ⟨m,ks,n1,js,e5.1,Qf h.ph h.da r hm,e2,e3,e4,e5,hm,h.free r hm,Ls.refs_to hm⟩
theorem ResQ.pass{c:ResC}{pre rest:List RefL}{r:RefL}{V:World}(h:ResQ c pre V)(hs:c.x.refs=pre++r::rest)(h0:Bt c.rn c.pn r.key 0=some 0)(hc:V.cell? ⟨r.b,r.o+1,none⟩=some (int i64 0)):ResQ c (pre++[r]) V:=by
 obtain ⟨m,ks,n1,js,c1,c2,e2,e3,e4,e5,hm,_,_⟩:=h.next hs
 have hA:m=0:=by rw [hc] at c1;cases c1;rfl
 subst hA;refine ⟨h.bx,h.be,h.bk,h.tb,h.mt,h.mr,h.mp,h.ph,h.da,⟨ks++[0],rest,n1++[0],js,by rw [hs];simp,by rw [e2];simp,?_,e4.append ⟨c1,trivial⟩,e5.2⟩,h.free,h.base⟩;rw [List.map_append];exact Fu e3 h0
theorem ResQ.put{c:ResC}(hK:ResK c){pre rest:List RefL}{r:RefL}{V:World}{m k:Int}(h:ResQ c pre V)(hs:c.x.refs=pre++r::rest)(hm:V.cell? ⟨r.b,r.o+1,none⟩=some (int i64 m))(h0:Bt c.rn c.pn r.key m=some k):ResQ c (pre++[r]) (V.setCell ⟨r.b,r.o+1,none⟩ (int i64 k)):=by
 obtain ⟨m',ks,n1,js,c1,c2,e2,e3,e4,e5,hA,hC,_⟩:=h.next hs
 have hD:m'=m:=by rw [hm] at c1;cases c1;rfl
 subst hD;obtain ⟨x1,x2,x3,x4,x5⟩:=hK.ne r hA;have ob:∀b,b≠r.b→(V.setCell ⟨r.b,r.o+1,none⟩ (int i64 k)).heap[b]?=V.heap[b]?:=λb hb=>Below.heap_setCell _ _ _ _ hb
 have om:∀{κ:Type} [DecidableEq κ] {f:κ→Value} {b:Nat} {kvs:List (κ×Value)},MapAt f V b kvs→MapAt f (V.setCell ⟨r.b,r.o+1,none⟩ (int i64 k)) b kvs:=λ{κ _ f b kvs} hM=>hM.of_block (ob b (λe=>by
  obtain ⟨es,cl,hb,_⟩:=hM;obtain ⟨cur,t,hf⟩:=hC
  rw [e,hf] at hb;cases hb))
 have hB:=hK.sep.apart;rw [hs] at hB;obtain ⟨s1,s2⟩:=NsAt.set (n:=k) hB e4 e5;obtain ⟨p1,p2⟩:=hK.sep.set (v:=int i64 k) hA h.ph h.da;obtain ⟨kvO,q1,q2,q3⟩:=h.mt;refine ⟨(ob _ (λe=>x1 e.symm)).trans h.bx,(ob _ (λe=>x2 e.symm)).trans h.be,Ac h.bk (Aq (Or.inl x3)),Ac h.tb (Aq (Or.inl x4)),⟨kvO,om q1,q2,q3⟩,om h.mr,om h.mp,p1,p2,⟨ks++[k],rest,n1++[m'],js,by rw [hs];simp,by rw [e2];simp,?_,s1.append ⟨s2.1,trivial⟩,s2.2⟩,λq hq=>(h.free q hq).set _ _,h.base.setCell (p:=⟨r.b,r.o+1,none⟩) x5 _⟩;rw [List.map_append];exact Fu e3 h0
theorem ResQ.fail{c:ResC}{pre rest:List RefL}{r:RefL}{V:World}{m:Int}(h:ResQ c pre V)(hs:c.x.refs=pre++r::rest)(hm:V.cell? ⟨r.b,r.o+1,none⟩=some (int i64 m))(h0:Bt c.rn c.pn r.key m=none):Ay c.rn c.pn (c.x.refs.map RefL.key) c.ns=none:=by
 obtain ⟨m',ks,n1,js,c1,c2,e2,e3,e4,e5,hA,hC,_⟩:=h.next hs
 have hB:m'=m:=by rw [hm] at c1;cases c1;rfl
 subst hB;rw [hs,e2,List.map_append];exact KT e3 h0
end
section
open Go Go.RowKit Go.Shelf
noncomputable def Am:Code:=(Tryz.f89.body).getD .skip
noncomputable def body15:Code:=match Ab 9 Am with
 | .seq (.seq _ (.block _ (.rangeFunc _ _ _ b))) _=>b
 | _=>.skip
section
attribute [local go_sem] Oper.semAt_some
theorem O2(l:Nat)(c:ResC)(B1:Nat)(pre rest:List RefL)(r:RefL)(W:World)(hs:c.x.refs=pre++r::rest)(hI:ResI c pre W)(h0:r.to=0)
  (e0 e5 e8 e9 ea eb ec ed ee ef eg eh ei ej ek el em en eo ep eq er es et eu ev ew ex ey ez eA eB eC eD eE eF eG eH eI eJ eK eL eM eN eO eP eQ eR eS eT eU eV eW eX eY eZ aa ab ac ae af ag ah ai aj ak al am an ao ap aq ar au av aw ax ay az aA aB aC aD aE aF aG aH aI aJ aK aL aM aN:Value) :
  body15.wpIn (Fence.wide.inRound l) 10 Tryz.prog (BW c.Bl (ResI c) (λ_=>False) (N7 c) (Aw 170) (pre++[r]) W) { tmps:=#[e0,.pointer (some ⟨B1,0,none⟩),.pointer (some ⟨c.X,0,none⟩),.pointer (some ⟨c.E,0,none⟩),.pointer (some ⟨c.TB,0,none⟩),e5,.pointer (some ⟨r.b,r.o,none⟩),int i64 (r.to:Int),e8,e9,ea,eb,ec,ed,ee,ef,eg,eh,ei,ej,ek,el,em,en,eo,ep,eq,er,es,et,eu,ev,ew,ex,ey,ez,eA,eB,eC,eD,eE,eF,eG,eH,eI,eJ,eK,eL,eM,eN,eO,eP,eQ,eR,eS,eT,eU,eV,eW,eX,eY,eZ,aa,ab,ac,ae,af,ag,ah,ai,aj,ak,al,am,an,ao,ap,aq,ar,au,av,aw,ax,ay,az,aA,aB,aC,aD,aE,aF,aG,aH,aI,aJ,aK,aL,aM,aN],defers:=[] } W:=by
 obtain ⟨V,v1,v2,v3⟩:=id hI;obtain ⟨m,ks,n1,js,c1,c2,e2,e3,e4,e5,hA,hC,hD⟩:=v2.next hs
 have d1:=Ad (by rw [← v1] at v3;exact v3) c1;have d2:=Ad (by rw [← v1] at v3;exact v3) c2;have hB:=Tb r.nm m;by_cases hz:r.nm=[]∧m=0
 ·have hP:ResI c (pre++[r]) W:=⟨V,v1,v2.pass hs (by unfold Bt RefL.key;simp [h0,hz.1]) (by rw [c1,hz.2]),v3⟩
  have HP:=qh hP;rw [hz.1,hz.2] at hB;simp only [and_self,decide_true] at hB;obtain ⟨z1,z2⟩:=hz;rw [z1] at d2;rw [z2] at d1;clear hP hI v1 v2 v3 c1 c2 e2 e3 e4 e5 hA hC hD;rw [h0];dsimp only;unfold body15 Am
  conv=>arg 4;whnf
  gi_wp2_with (refine ⟨trivial,?_⟩;refine (CallsIn.inRound l (callsIn_wide.2 (Bv _ _))).mono ?_;rintro e w' ⟨rfl,rfl⟩);exact ⟨Beyond.refl _ _,HP.out⟩
 ·have hP:N7 c W:=⟨Or.inr (v2.fail hs c1 (by unfold Bt RefL.key;simp only [h0,if_true];rw [if_neg hz])),pre,hI⟩
  have HP:=qh hP;simp only [hz,decide_false] at hB;clear hP hI v1 v2 v3 c1 c2 e2 e3 e4 e5 hA hC hD hz;rw [h0];dsimp only;unfold body15 Am
  conv=>arg 4;whnf
  gi_wp2_with (refine ⟨trivial,?_⟩;refine (CallsIn.inRound l (callsIn_wide.2 (AE _ _))).mono ?_;unfold Ak;rintro e w' ⟨rfl,rfl⟩);exact ⟨rfl,rfl,Beyond.refl _ _,HP.out⟩
theorem J6(l:Nat)(c:ResC)(hK:ResK c)(B1:Nat)(pre rest:List RefL)(r:RefL)(W:World)(hs:c.x.refs=pre++r::rest)(hI:ResI c pre W)(nl:List Nm)(mM:Nat)(hA:(r.to=1∧nl=c.rn∧mM=c.mR)∨(r.to=2∧nl=c.pn∧mM=c.mP))
  (e0 e5 e8 e9 ea eb ec ed ee ef eg eh ei ej ek el em en eo ep eq er es et eu ev ew ex ey ez eA eB eC eD eE eF eG eH eI eJ eK eL eM eN eO eP eQ eR eS eT eU eV eW eX eY eZ aa ab ac ae af ag ah ai aj ak al am an ao ap aq ar au av aw ax ay az aA aB aC aD aE aF aG aH aI aJ aK aL aM aN:Value) :
  body15.wpIn (Fence.wide.inRound l) 10 Tryz.prog (BW c.Bl (ResI c) (λ_=>False) (N7 c) (Aw 170) (pre++[r]) W) { tmps:=#[e0,.pointer (some ⟨B1,0,none⟩),.pointer (some ⟨c.X,0,none⟩),.pointer (some ⟨c.E,0,none⟩),.pointer (some ⟨c.TB,0,none⟩),e5,.pointer (some ⟨r.b,r.o,none⟩),int i64 (r.to:Int),e8,e9,ea,eb,ec,ed,ee,ef,eg,eh,ei,ej,ek,el,em,en,eo,ep,eq,er,es,et,eu,ev,ew,ex,ey,ez,eA,eB,eC,eD,eE,eF,eG,eH,eI,eJ,eK,eL,eM,eN,eO,eP,eQ,eR,eS,eT,eU,eV,eW,eX,eY,eZ,aa,ab,ac,ae,af,ag,ah,ai,aj,ak,al,am,an,ao,ap,aq,ar,au,av,aw,ax,ay,az,aA,aB,aC,aD,aE,aF,aG,aH,aI,aJ,aK,aL,aM,aN],defers:=[] } W:=by
 obtain ⟨V,v1,v2,v3⟩:=id hI;obtain ⟨m,ks,n1,js,c1,c2,e2,e3,e4,e5,hE,hF,hM⟩:=v2.next hs
 have v3':Below V.heap.size V W:=by rw [v1];exact v3
 have d1:=Ad v3' c1;have d2:=Ad v3' c2;have dT:=Ad v3' v2.tb
 have hG:nl.Nodup:=by
  rcases hA with ⟨_,rfl,_⟩|⟨_,rfl,_⟩
  ·exact hK.rn
  ·exact hK.pn
 have hH:MapAt sv W mM (BB nl):=by
  rcases hA with ⟨_,rfl,rfl⟩|⟨_,rfl,rfl⟩
  ·exact v2.mr.below v3' v2.mr.lt
  ·exact v2.mp.below v3' v2.mp.lt
 obtain ⟨kvO,qm,q1,q2⟩:=v2.mt;have hJ:=qm.below v3' qm.lt
 have hC:∀z:Int,Bt c.rn c.pn r.key z=if r.nm∈nl then some ((nl.idxOf r.nm:Nat):Int) else none:=λz=>by
  unfold Bt RefL.key;rcases hA with ⟨h1,rfl,_⟩|⟨h1,rfl,_⟩<;>simp [h1]
 have hO:∀k,(Instr.lookup 190 (.map (some c.MT)) (int i64 (r.to:Int)) false).run Tryz.prog (W.drewN k)=.ok (.map (some mM)) (W.drewN k):=λk=>by
  have:=Bi (P:=Tryz.prog) Bz Tryz.underlying190 Tryz.underlying185 (hJ.drewN k) (r.to:Int) (Tryz.zeroValue181 _) false;unfold kI at this;rcases hA with ⟨h1,rfl,rfl⟩|⟨h1,rfl,rfl⟩<;>(rw [h1] at this ⊢;simpa [q1,q2] using this)
 have hL:=λk=>Bi (P:=Tryz.prog) JZ Tryz.underlying181 Tryz.underlying9 (hH.drewN k) r.nm (Tryz.zeroValue3 _) true
 have hN:((r.to:Int)==0)=false:=by
  rcases hA with ⟨h1,_⟩|⟨h1,_⟩<;>(rw [h1];rfl)
 rw [On hG] at hL;have mixed:Tryz.prog.follows .mixedOrders=true:=by kernel_rfl
 generalize hQ:(r.to:Int)=rt at *;by_cases hD:r.nm∈nl
 ·have hP:ResI c (pre++[r]) (W.setCell ⟨r.b,r.o+1,none⟩ (int i64 ((nl.idxOf r.nm:Nat):Int))):=⟨V.setCell ⟨r.b,r.o+1,none⟩ (int i64 ((nl.idxOf r.nm:Nat):Int)),by rw [← v1];simp [World.setCell],v2.put hK hs c1 (by rw [hC,if_pos hD]),Oh v3 _ _⟩
  have hB:Beyond c.Bl W (W.setCell ⟨r.b,r.o+1,none⟩ (int i64 ((nl.idxOf r.nm:Nat):Int))):=Lu _ _ _ (by rw [← v1];exact hF.lt);have hR:W.frozen? ⟨r.b,r.o+1,none⟩=false:=(hF.below v3').free _;have HP:=qh hP;have HB:=qh hB;simp only [if_pos hD,Option.getD_some,Option.isSome_some,if_true] at hL;generalize ((nl.idxOf r.nm:Nat):Int)=kx at *;clear hP hB hI v1 v2 v3 v3' c1 c2 e2 e3 e4 e5 hE hF hM hA hG hH hJ hC hD hs qm q1 q2;dsimp only;unfold body15 Am
  conv=>arg 4;whnf
  gi_wp2_with fail;refine Da mixed (by kernel_rfl) (by kernel_rfl) ?_
  repeat (quiet_step_in (fail))
  refine wpQuietIn_nil ?_;rintro W2 ⟨nq,rfl⟩;have hS:(W.drewN nq).setCell ⟨r.b,r.o+1,none⟩ (int i64 kx)=(W.setCell ⟨r.b,r.o+1,none⟩ (int i64 kx)).drewN nq:=by unfold World.drewN World.setCell;simp
  gi_wp2_with (refine ⟨trivial,?_⟩;refine (CallsIn.inRound l (callsIn_wide.2 (Bv _ _))).mono ?_;rintro e w' ⟨rfl,rfl⟩);exact ⟨HB.out.trans (Beyond.of_below (Aj (Below.refl _ _) _)),HP.out.keep (Aj (Below.refl _ _) _)⟩
 ·have hP:∀k,N7 c (W.drewN k):=λk=>⟨Or.inr (v2.fail hs c1 (by rw [hC,if_neg hD])),pre,hI.keep (Aj (Below.refl _ _) k)⟩
  have HP:=qh hP;simp only [if_neg hD,Option.getD_none,Option.isSome_none,if_true] at hL;clear hP hI v1 v2 v3 v3' c1 c2 e2 e3 e4 e5 hE hF hM hA hG hH hJ hC hD hs qm q1 q2;dsimp only;unfold body15 Am
  conv=>arg 4;whnf
  gi_wp2_with fail;refine Da mixed (by kernel_rfl) (by kernel_rfl) ?_
  repeat (quiet_step_in (fail))
  refine wpQuietIn_nil ?_;rintro W2 ⟨nq,rfl⟩
  gi_wp2_with (refine ⟨trivial,?_⟩;refine (CallsIn.inRound l (callsIn_wide.2 (AE _ _))).mono ?_;unfold Ak;rintro e w' ⟨rfl,rfl⟩);exact ⟨rfl,rfl,Beyond.of_below (Aj (Below.refl _ _) _),HP.out _⟩
theorem Q8(l:Nat)(c:ResC)(hK:ResK c)(B1:Nat)(pre rest:List RefL)(r:RefL)(W:World)(hs:c.x.refs=pre++r::rest)(hI:ResI c pre W)
:
  body15.wpIn (Fence.wide.inRound l) 10 Tryz.prog (BW c.Bl (ResI c) (λ_=>False) (N7 c) (Aw 170) (pre++[r]) W) { tmps:=#[e0,.pointer (some ⟨B1,0,none⟩),.pointer (some ⟨c.X,0,none⟩),.pointer (some ⟨c.E,0,none⟩),.pointer (some ⟨c.TB,0,none⟩),e5,.pointer (some ⟨r.b,r.o,none⟩),int i64 (r.to:Int),e8,e9,ea,eb,ec,ed,ee,ef,eg,eh,ei,ej,ek,el,em,en,eo,ep,eq,er,es,et,eu,ev,ew,ex,ey,ez,eA,eB,eC,eD,eE,eF,eG,eH,eI,eJ,eK,eL,eM,eN,eO,eP,eQ,eR,eS,eT,eU,eV,eW,eX,eY,eZ,aa,ab,ac,ae,af,ag,ah,ai,aj,ak,al,am,an,ao,ap,aq,ar,au,av,aw,ax,ay,az,aA,aB,aC,aD,aE,aF,aG,aH,aI,aJ,aK,aL,aM,aN],defers:=[] } W:=by
 have hA:r.to≤2:=Ls.refs_to (by rw [hs];simp);by_cases h0:r.to=0
 ·exact O2 l c B1 pre rest r W hs hI h0 e0 e5 e8 e9 ea eb ec ed ee ef eg eh ei ej ek el em en eo ep eq er es et eu ev ew ex ey ez eA eB eC eD eE eF eG eH eI eJ eK eL eM eN eO eP eQ eR eS eT eU eV eW eX eY eZ aa ab ac ae af ag ah ai aj ak al am an ao ap aq ar au av aw ax ay az aA aB aC aD aE aF aG aH aI aJ aK aL aM aN
 by_cases h1:r.to=1
 ·exact J6 l c hK B1 pre rest r W hs hI c.rn c.mR (Or.inl ⟨h1,rfl,rfl⟩) e0 e5 e8 e9 ea eb ec ed ee ef eg eh ei ej ek el em en eo ep eq er es et eu ev ew ex ey ez eA eB eC eD eE eF eG eH eI eJ eK eL eM eN eO eP eQ eR eS eT eU eV eW eX eY eZ aa ab ac ae af ag ah ai aj ak al am an ao ap aq ar au av aw ax ay az aA aB aC aD aE aF aG aH aI aJ aK aL aM aN
 ·exact J6 l c hK B1 pre rest r W hs hI c.pn c.mP (Or.inr ⟨by omega,rfl,rfl⟩) e0 e5 e8 e9 ea eb ec ed ee ef eg eh ei ej ek el em en eo ep eq er es et eu ev ew ex ey ez eA eB eC eD eE eF eG eH eI eJ eK eL eM eN eO eP eQ eR eS eT eU eV eW eX eY eZ aa ab ac ae af ag ah ai aj ak al am an ao ap aq ar au av aw ax ay az aA aB aC aD aE aF aG aH aI aJ aK aL aM aN
end
end
section
open Go Go.RowKit Go.Shelf
noncomputable def Fp:Code:=Ab 9 Am
theorem Mu{F:Fence}{n m:Nat}{P:Program}{c:Code}{Q:Exit→Act→World→Prop}{a:Act}{w:World}(hd:F.depth=none)(h:c.wpIn F n P Q a w):c.wpIn F m P Q a w:=λb k cs h1 h2 _=>h b k cs h1 h2 (Fw hd _)
theorem ResI.fld{c:ResC}{pre:List RefL}{W:World}(h:ResI c pre W):FldR c.kB c.X c.x W:=by
 obtain ⟨V,v1,v2,v3⟩:=h;have v3':Below V.heap.size V W:=by rw [v1];exact v3
 exact ⟨Ad v3' v2.bk,Ad v3' (Aa v2.bx 10 rfl),Ad v3' (Aa v2.bx 11 rfl),Bd v3' v2.ph⟩
theorem ResI.size{c:ResC}{pre:List RefL}{W:World}(h:ResI c pre W):c.Bl≤W.heap.size:=by
 obtain ⟨V,v1,v2,v3⟩:=h;have:=v3.size;omega
section
attribute [local go_sem] Oper.semAt_some
theorem O3(c:ResC)(hK:ResK c)(hX:c.x.phrases=[]∨c.x.fa=some ⟨blk c.x.fa,off c.x.fa,none⟩)(hY:c.x.phrases.length≤maxLen)(hZ:c.x.dances=[]∨c.x.da=some ⟨blk c.x.da,off c.x.da,none⟩)(ha:c.x.dances.length≤maxLen)(hE:c.X≠c.E)(hJ:c.w.heap.size≤c.X∧c.w.heap.size≤c.E)
  (B1:Nat) (W:World) (hL:c.kB=W.heap.size) (hc:c.Bl=W.heap.size+1)
  (hQ:∀W1,Below W.heap.size W W1→W1.cell? ⟨c.kB,0,none⟩=some (.pointer (some ⟨c.X,0,none⟩))→ResQ c [] W1) (R:Ending→World→Prop)
  (hM:∀ks V W',Ay c.rn c.pn (c.x.refs.map RefL.key) c.ns=some ks→c.x.strip.kinds=true→NsAt V c.x.refs ks→Bk V (blk c.x.fa) (off c.x.fa) c.x.phrases→Bw V (blk c.x.da) (off c.x.da) c.x.dances→(∀r∈c.x.refs,FreeB V r.b)→Below c.w.heap.size c.w V→V.heap.size≤W'.heap.size→W'.os=V.os→W'.tape=V.tape→W'.output=V.output→(∀b,b<V.heap.size→b≠c.X→b≠c.E→W'.heap[b]?=V.heap[b]?)→R (.returned (.tuple #[.agg c.x.cells,int i64 0])) W')
  (hC:∀W',(c.x.strip.kinds=false∨Ay c.rn c.pn (c.x.refs.map RefL.key) c.ns=none)→Below c.w.heap.size c.w W'→R (.returned (.tuple #[.agg CJ,int i64 170])) W')
  (e0 e5 e6 e7 e8 e9 ea eb ec ed ee ef eg eh ei ej ek el em en eo ep eq er es et eu ev ew ex ey ez eA eB eC eD eE eF eG eH eI eJ eK eL eM eN eO eP eQ eR eS eT eU eV eW eX eY eZ aa ab ac ae af ag ah ai aj ak al am an ao ap aq ar au av aw ax ay az aA aB aC aD aE aF aG aH aI aJ aK aL aM aN:Value) :
  Dz 89 Tryz.prog Fp (bodyPostM Fence.wide 0 Tryz.prog Tryz.f89 R) { tmps:=#[e0,.pointer (some ⟨B1,0,none⟩),.pointer (some ⟨c.X,0,none⟩),.pointer (some ⟨c.E,0,none⟩),.pointer (some ⟨c.TB,0,none⟩),e5,e6,e7,e8,e9,ea,eb,ec,ed,ee,ef,eg,eh,ei,ej,ek,el,em,en,eo,ep,eq,er,es,et,eu,ev,ew,ex,ey,ez,eA,eB,eC,eD,eE,eF,eG,eH,eI,eJ,eK,eL,eM,eN,eO,eP,eQ,eR,eS,eT,eU,eV,eW,eX,eY,eZ,aa,ab,ac,ae,af,ag,ah,ai,aj,ak,al,am,an,ao,ap,aq,ar,au,av,aw,ax,ay,az,aA,aB,aC,aD,aE,aF,aG,aH,aI,aJ,aK,aL,aM,aN],defers:=[dfr c.X c.E] } W:=by
 have HQ:=qh hQ;have hd:=qh hM;have hG:=qh hC;clear hQ hM hC;dsimp only;unfold Fp Am
 conv=>arg 3;whnf
 refine FB ?_;refine AH (λK hN=>?_);have hO:=qh hN;clear hN
 go_wp2_with (go_at_call 90;refine (EP ⟨c.X,0,none⟩ W).mono ?_;rintro e W1 ⟨rfl,g1,b1,s1⟩);refine hO.out _ _ ?_;clear hO;rw [← hL] at g1;have hP:=HQ.out W1 b1 (Aa g1 0 rfl);have hA:W1.heap.size=c.Bl:=by rw [hc,s1]
 have hI0:ResI c [] W1:=⟨W1,hA,hP,Below.refl _ _⟩;refine EY ?_;refine Dm (fn0:=Tryz.f89) Tryz.func89 (gf:=130) (lb:=#[.pointer (some ⟨W.heap.size,0,none⟩)]) rfl (enters_of Tryz.func130 (by kernel_rfl) rfl)
  (EQ W.heap.size c.X c.x (FldR W.heap.size c.X c.x) (λ_ h=>h) hX hY hZ ha W1) (λ_=>rfl) (ResI c) (λ_=>False) (N7 c)
  (λs W W' row hs hg hr=>hs.keep ((Below.refl _ _).grown hg hs.size (λk e=>by rw [← hA];exact (hr k e).1))) (λ_ _ _ _ h=>h.elim) (λs W W' hs hb=>hs.keep (hb.mono hs.size)) hI0 (λ_ _ h=>by rw [← hL];exact h.fld)
  (λr=>{ tmps:=#[e0,.pointer (some ⟨B1,0,none⟩),.pointer (some ⟨c.X,0,none⟩),.pointer (some ⟨c.E,0,none⟩),.pointer (some ⟨c.TB,0,none⟩),e5,.pointer (some ⟨r.b,r.o,none⟩),int i64 (r.to:Int),e8,e9,ea,eb,ec,ed,ee,ef,eg,eh,ei,ej,ek,el,em,en,eo,ep,eq,er,es,et,eu,ev,ew,ex,ey,ez,eA,eB,eC,eD,eE,eF,eG,eH,eI,eJ,eK,eL,eM,eN,eO,eP,eQ,eR,eS,eT,eU,eV,eW,eX,eY,eZ,aa,ab,ac,ae,af,ag,ah,ai,.func (.func 130) #[] #[.pointer (some ⟨W.heap.size,0,none⟩)],.pointer (some ⟨r.b,r.o,none⟩),int i64 (r.to:Int),am,an,ao,ap,aq,ar,au,av,aw,ax,ay,az,aA,aB,aC,aD,aE,aF,aG,aH,aI,aJ,aK,aL,aM,aN],defers:=[] }) ?assign ?body ?bad ?done ?stop ?pan
 case assign =>
  intro l r V K hS;have he:=qh hS;clear hS;unfold IB;dsimp only;gi_wp2_with fail;exact he.out
 case body =>
  intro l pre r rest V hs hI;rw [hA];exact Mu rfl (Q8 l c hK B1 pre rest r V hs hI)
 case bad =>
  intro pre rest V hs hh hI;exact ⟨Or.inl (by simpa using hh),pre,hI⟩
 case stop=>exact λ_ _ _ h _=>h.elim
 case pan =>
  intro D V hD hF hB;obtain ⟨hf,pre,U,u1,u2,u3⟩:=hF;have u3':Below U.heap.size U V:=by rw [u1];exact u3
  have gX:=(u3'.block _ (qs.1 u2.bx).1).trans u2.bx;have gE:=(u3'.block _ (qs.1 u2.be).1).trans u2.be;refine GZ _ c.X c.E D 170 _ _ R V rfl rfl gX rfl gE hE hB λW' hb=>hG.out W' hf ?_
  have hi:=u2.base.trans (u3'.mono u2.base.size);exact hi.trans (hb _ hJ.1 hJ.2 (by have:=u2.base.size;omega))
 case done =>
  intro D V hD hT hI hB;obtain ⟨U,u1,u2,u3⟩:=hI;have u3':Below U.heap.size U V:=by rw [u1];exact u3
  have gX:=(u3'.block _ (qs.1 u2.bx).1).trans u2.bx;have gE:=(u3'.block _ (qs.1 u2.be).1).trans u2.be;obtain ⟨ks,rest,n1,js,q1,q2,q3,q4,q5⟩:=u2.refs
  have hU:rest=[]:=by
   have:=congrArg List.length q1;simp only [List.length_append] at this;exact List.length_eq_zero_iff.1 (by omega)
  have hV:js=[]:=by
   rw [hU] at q5
   cases js with
   | nil=>rfl
   | cons=>exact q5.elim
  rw [hV,List.append_nil] at q2;obtain ⟨W2,x2,g2,o2,b2,s2⟩:=FO gX rfl (sv c.x.name) (int i64 c.x.wd) (int i64 c.x.dp) (int i64 c.x.bars) (int i64 c.x.t0) (int i64 c.x.t1) (.slice c.x.ra c.x.roles.length c.x.rc) (.slice c.x.ta c.x.tempos.length c.x.tc) (.slice c.x.ua c.x.pauses.length c.x.uc) (.slice c.x.sa c.x.spans.length c.x.sc) (.slice c.x.fa c.x.phrases.length c.x.fc) (.slice c.x.da c.x.dances.length c.x.dc);have gE2:=(o2 c.E (λe=>hE e.symm)).trans gE;obtain ⟨W3,x3,g3,o3,b3,s3⟩:=Bp gE2 (int i64 0);have nX:c.X≠D:=λe=>by rw [e,hB] at gX;cases gX
  have nE:c.E≠D:=λe=>by rw [e,hB] at gE;cases gE
  have hW:=(o3 D (λe=>nE e.symm)).trans ((o2 D (λe=>nX e.symm)).trans hB);have gX3:=(o3 c.X hE).trans g2;have hH:U.heap.size≤D:=by rw [u1,← hA];exact hD
  have hR:=hd.out ks U (W3.putObj D (.deferred none)) (by rw [q2];exact q3) hT q4 u2.ph u2.da u2.free u2.base (by simp [World.putObj];have:=u3'.size;omega)
   ((b3 0 V (b2 0 V (Below.refl _ _) (Nat.zero_le _)) (Nat.zero_le _)).os.trans u3'.os) ((b3 0 V (b2 0 V (Below.refl _ _) (Nat.zero_le _)) (Nat.zero_le _)).tape.trans u3'.tape) ((b3 0 V (b2 0 V (Below.refl _ _) (Nat.zero_le _)) (Nat.zero_le _)).output.trans u3'.output)
   (λb hb h1 h2=>(World.putObj_heap_other (by omega)).trans ((o3 b h2).trans ((o2 b h1).trans (u3'.block b hb))))
  have HR:=qh hR;have hj:=qh hW;have G3:=qh g3;have GX3:=qh gX3;have fX:∀j,V.frozen? ⟨c.X,j,none⟩=false:=λj=>by simp [World.frozen?,gX]
  have cE2:W2.cell? ⟨c.E,0,none⟩=some (int i64 0):=Aa gE2 0 rfl;have fE2:W2.frozen? ⟨c.E,0,none⟩=false:=by simp [World.frozen?,gE2]
  have y0:V.cell? ⟨c.X,0,none⟩=some (sv c.x.name):=Aa gX 0 rfl;have y1:V.cell? ⟨c.X,1,none⟩=some (int i64 c.x.wd):=Aa gX 1 rfl;have y2:V.cell? ⟨c.X,2,none⟩=some (int i64 c.x.dp):=Aa gX 2 rfl;have y3:V.cell? ⟨c.X,3,none⟩=some (int i64 c.x.bars):=Aa gX 3 rfl;have y4:V.cell? ⟨c.X,4,none⟩=some (int i64 c.x.t0):=Aa gX 4 rfl;have y5:V.cell? ⟨c.X,5,none⟩=some (int i64 c.x.t1):=Aa gX 5 rfl;have y6:V.cell? ⟨c.X,6,none⟩=some (.slice c.x.ra c.x.roles.length c.x.rc):=Aa gX 6 rfl;have y7:V.cell? ⟨c.X,7,none⟩=some (.slice c.x.ta c.x.tempos.length c.x.tc):=Aa gX 7 rfl;have y8:V.cell? ⟨c.X,8,none⟩=some (.slice c.x.ua c.x.pauses.length c.x.uc):=Aa gX 8 rfl;have y9:V.cell? ⟨c.X,9,none⟩=some (.slice c.x.sa c.x.spans.length c.x.sc):=Aa gX 9 rfl;have y10:V.cell? ⟨c.X,10,none⟩=some (.slice c.x.fa c.x.phrases.length c.x.fc):=Aa gX 10 rfl;have y11:V.cell? ⟨c.X,11,none⟩=some (.slice c.x.da c.x.dances.length c.x.dc):=Aa gX 11 rfl;clear hR hW g3 gX3 u1 u2 u3 u3' gX gE q1 q2 q3 q4 q5 hU hV g2 o2 b2 s2 gE2 o3 b3 s3 nX nE hH hI0 hP hB hD hT g1 b1 s1 hA
  show Dz 89 Tryz.prog _ _ _ V
  refine EZ ?_;go_wp2_with fail;refine Ps _ c.X c.E D _ _ R W3 ?_ ?_ GX3.out rfl G3.out hj.out HR.out<;>rfl
end
end
section
open Go Go.RowKit Go.Shelf
noncomputable def elem15n8:Code:=qe 8 Am
theorem Ma(B1 X E TB:Nat)(cs:Array Value)(ao:Option Addr)(cc:Nat)(ds:List Deferred)(W0:World)(hX:W0.heap[X]?=some (.cells cs 30 (0,0)))(hA:cs[10]?=some (.slice ao 0 cc))(Q:Act→World→Prop)
  (hQ:∀(f0 f5 f6 f7 f8 f9 aP aQ aR aS aT aU aV aW aX aY aZ ba bb bc bd be bf bg bh bi bj bk bl bm bn bo bp bq br bs bt bu bv bw bx bz bA bB bC bD bE bF bG bH bI bJ bK bL bM bN bO bP bQ bR bS bT bU bV bW bY bZ ca cb cd ce cf cg ch ci cj ck cm cn co cp cq cr ct cu cv cw cx cy cz cA cB cC cD cE:Value),Q { tmps:=#[f0,.pointer (some ⟨B1,0,none⟩),.pointer (some ⟨X,0,none⟩),.pointer (some ⟨E,0,none⟩),.pointer (some ⟨TB,0,none⟩),f5,f6,f7,f8,f9,aP,aQ,aR,aS,aT,aU,aV,aW,aX,aY,aZ,ba,bb,bc,bd,be,bf,bg,bh,bi,bj,bk,bl,bm,bn,bo,bp,bq,br,bs,bt,bu,bv,bw,bx,bz,bA,bB,bC,bD,bE,bF,bG,bH,bI,bJ,bK,bL,bM,bN,bO,bP,bQ,bR,bS,bT,bU,bV,bW,bY,bZ,ca,cb,cd,ce,cf,cg,ch,ci,cj,ck,cm,cn,co,cp,cq,cr,ct,cu,cv,cw,cx,cy,cz,cA,cB,cC,cD,cE],defers:=ds } W0)
:
  elem15n8.wp Tryz.prog (Exit.then Q (λ_ _ _=>False)) { tmps:=#[e0,.pointer (some ⟨B1,0,none⟩),.pointer (some ⟨X,0,none⟩),.pointer (some ⟨E,0,none⟩),.pointer (some ⟨TB,0,none⟩),e5,e6,e7,e8,e9,ea,eb,ec,ed,ee,ef,eg,eh,ei,ej,ek,el,em,en,eo,ep,eq,er,es,et,eu,ev,ew,ex,ey,ez,eA,eB,eC,eD,eE,eF,eG,eH,eI,eJ,eK,eL,eM,eN,eO,eP,eQ,eR,eS,eT,eU,eV,eW,eX,eY,eZ,aa,ab,ac,ae,af,ag,ah,ai,aj,ak,al,am,an,ap,aq,ar,au,av,aw,ax,ay,az,aA,aB,aC,aD,aE,aF,aG,aH,aI,aJ,aK,aL,aM,aN,aO],defers:=ds } W0:=by
 have c10:=Aa hX 10 hA;have HQ:=qh hQ;clear hQ hX hA;dsimp only;unfold elem15n8 Am
 conv=>arg 2;whnf
 go_wp2_with fail;go_loopw [54] (λiv wr=>iv=int i64 0∧wr=W0) (λ_ _=>0)
 case atStart=>exact ⟨rfl,rfl⟩
 case round =>
  obtain ⟨rfl,rfl⟩:=hrel;go_wp2_with fail;exact HQ.out _ _ _ _ _ _ _ _ _ _ _ _ _ _ _ _ _ _ _ _ _ _ _ _ _ _ _ _ _ _ _ _ _ _ _ _ _ _ _ _ _ _ _ _ _ _ _ _ _ _ _ _ _ _ _ _ _ _ _ _ _ _ _ _ _ _ _ _ _ _ _ _ _ _ _ _ _ _ _ _ _ _ _ _ _ _ _ _ _ _ _ _ _ _ _
theorem Mb(ps:List Ph)(ns:List Int)(lo g n cc B1 X E TB:Nat)(cs:Array Value)(ds:List Deferred)(W0:World)(hn:ps.length=n)(hI:n≤100000)(hX:W0.heap[X]?=some (.cells cs 30 (0,0)))(hF:cs[10]?=some (.slice (some ⟨g,0,none⟩) n cc))(hJ:X≠g)(hK:g<W0.heap.size)(hS:PhS ps ns lo g 0 W0 [] ps [] ns W0)(Q:Act→World→Prop)
  (hQ:∀(A:List Ph) (n1:List Int) (W:World),A.length=n→PhS ps ns lo g n W0 A [] n1 [] W→∀(f0 f5 f6 f7 f8 f9 aP aQ aR aS aT aU aV aW aX aY aZ ba bb bc bd be bf bg bh bi bj bk bl bm bn bo bp bq br bs bt bu bv bw bx bz bA bB bC bD bE bF bG bH bI bJ bK bL bM bN bO bP bQ bR bS bT bU bV bW bY bZ ca cb cd ce cf cg ch ci cj ck cm cn cp cq cr ct cu cv cw cx cy cz cA cB cC cD cE cF:Value),Q { tmps:=#[f0,.pointer (some ⟨B1,0,none⟩),.pointer (some ⟨X,0,none⟩),.pointer (some ⟨E,0,none⟩),.pointer (some ⟨TB,0,none⟩),f5,f6,f7,f8,f9,aP,aQ,aR,aS,aT,aU,aV,aW,aX,aY,aZ,ba,bb,bc,bd,be,bf,bg,bh,bi,bj,bk,bl,bm,bn,bo,bp,bq,br,bs,bt,bu,bv,bw,bx,bz,bA,bB,bC,bD,bE,bF,bG,bH,bI,bJ,bK,bL,bM,bN,bO,bP,bQ,bR,bS,bT,bU,bV,bW,bY,bZ,ca,cb,cd,ce,cf,cg,ch,ci,cj,ck,cm,cn,cp,cq,cr,ct,cu,cv,cw,cx,cy,cz,cA,cB,cC,cD,cE,cF],defers:=ds } W)
:
  elem15n8.wp Tryz.prog (Exit.then Q (λ_ _ _=>False)) { tmps:=#[e0,.pointer (some ⟨B1,0,none⟩),.pointer (some ⟨X,0,none⟩),.pointer (some ⟨E,0,none⟩),.pointer (some ⟨TB,0,none⟩),e5,e6,e7,e8,e9,ea,eb,ec,ed,ee,ef,eg,eh,ei,ej,ek,el,em,en,eo,ep,eq,er,es,et,eu,ev,ew,ex,ey,ez,eA,eB,eC,eD,eE,eF,eG,eH,eI,eJ,eK,eL,eM,eN,eO,eP,eQ,eR,eS,eT,eU,eV,eW,eX,eY,eZ,aa,ab,ac,ae,af,ag,ah,ai,aj,ak,al,am,an,ap,aq,ar,au,av,aw,ax,ay,az,aA,aB,aC,aD,aE,aF,aG,aH,aI,aJ,aK,aL,aM,aN,aO],defers:=ds } W0:=by
 have c10:=Aa hX 10 hF;have hP:=(qs.1 hX).1;have HQ:=qh hQ;have HS:=qh hS;have HN:=qh hn;have hC:=qh c10;clear hQ hX hF hS hn;dsimp only;unfold elem15n8 Am
 conv=>arg 2;whnf
 go_wp2_with fail;clear c10;go_loopw [54] (λiv wr=>∃(i:Nat) (A R:List Ph) (n1 n2:List Int),iv=int i64 i∧i+R.length=n∧Hid (PhS ps ns lo g i W0 A R n1 n2 wr)) (λiv _=>n+1-(intOf iv).toNat)
 case atStart=>exact ⟨0,[],ps,[],ns,rfl,by rw [HN.out];omega,HS⟩
 case round =>
  obtain ⟨i,A,R,n1,n2,rfl,hG,hS⟩:=hrel
  cases R with
  | nil =>
   simp only [List.length_nil] at hG;obtain rfl:i=n:=by omega
   have h:=hS.out
   have hB:n2=[]:=by
    have:=h.nsR
    cases n2 with
    | nil=>rfl
    | cons=>exact this.elim
   subst hB;go_wp2_with fail;exact HQ.out A n1 _ h.len h _ _ _ _ _ _ _ _ _ _ _ _ _ _ _ _ _ _ _ _ _ _ _ _ _ _ _ _ _ _ _ _ _ _ _ _ _ _ _ _ _ _ _ _ _ _ _ _ _ _ _ _ _ _ _ _ _ _ _ _ _ _ _ _ _ _ _ _ _ _ _ _ _ _ _ _ _ _ _ _ _ _ _ _ _ _ _ _ _ _ _ _ _ _ _
  | cons p r =>
   simp only [List.length_cons] at hG;have hi:(i:Int)<(n:Int):=by omega
   have h:=hS.out;obtain ⟨⟨q0,q1,qf,ql,qA⟩,hr⟩:=h.atR;unfold Ph.val at q1;obtain ⟨m1,m2,hB,k1,k2⟩:=NsAt.split (xs:=p.refsL) h.nsR;obtain ⟨sm1,sm2⟩:=h.small p (by simp)
   have CI:∀W,Below wr.heap.size wr W→Calls Tryz.prog 129 #[.slice p.ia p.its.len p.ic] W λe W'=>∃ao co,e=.returned (.slice ao p.its.len co)∧Hid (Below wr.heap.size wr W∧ClP p.its m1 W e W')∧Below wr.heap.size wr W':=λW hb =>
    (Lz _ p.its (qn _) p.ia p.ic m1 W sm1 qf (qA.below hb) (k1.below hb) sm2).mono λe W' hp=>by
     obtain ⟨a,co,T',h1,h2⟩:=id hp;exact ⟨a,co,h1,qh ⟨hb,hp⟩,hb.trans (h2.2.2.2.2.2.2.mono hb.size)⟩
   have hL:=qh CI;have hM:=qh k2;have hN:=qh hB;have cX:=h.but.cell hC.out hJ;have hR:X<wr.heap.size:=CN cX;have fr:=h.gf.2
   have hA:∀W,Below wr.heap.size wr W→W.cell? ⟨X,10,none⟩=some (.slice (some ⟨g,0,none⟩) n cc)∧W.cell? ⟨g,i*2+1,none⟩=some (.slice p.ia p.its.len p.ic)∧W.frozen? ⟨g,i*2+1,none⟩=false:=λW hb=>⟨Ad hb cX,Ad hb q1,(fr.below hb).free _⟩
   have hD:=qh hA;have hT:Below wr.heap.size wr wr:=Below.refl _ _;clear CI h qf ql qA hr k1 k2 sm1 sm2 hA fr q0 hB;go_wp2_with fail
   go_region_with (go_at_call 129;refine (hL.out _ (by first|assumption|exact Below.drew (by assumption)|exact Aj (by assumption) _)).mono ?_;rintro e w6 ⟨ao',co',rfl,hH,hE⟩;have c6X:=(hD.out _ hE).1;have c61:=(hD.out _ hE).2.1;have bP:=(hD.out _ hE).2.2)
   all_goals
    go_wp2_with fail;go_roundw
    case rel =>
     obtain ⟨A',hO⟩:=RA hS.out hN.out hM.out hK hH.out.1 hH.out.2;exact ⟨i+1,A',r,_,_,by go_num,by omega,qh hO⟩
    case measure=>simp [intOf];omega
end
end Go.Proofs.YtbkemlgfdklpfaaGreatDoor
