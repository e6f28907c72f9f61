/- Contracts and plain laws on the way to the statement: part 37. -/
import Derived.Test.YtbkemlgfdklpfaaGreatDoorZ31
import Derived.Shelf.Vars
import Derived.Test.YtbkemlgfdklpfaaGreatDoorChecked
import Derived.Test.YtbkemlgfdklpfaaGreatDoorZ4
set_option linter.unusedVariables false
set_option linter.unusedSimpArgs false
set_option maxRecDepth 100000
set_option maxHeartbeats 16000000
namespace Go.Proofs.YtbkemlgfdklpfaaGreatDoor
open Go.Value (int)
open Go.IntKind (i64)
section
open Go Go.ChangeShapes Go.WideShapes Go.ChangeAt Go.RowKit Go.Deep
section
variable {H:Type} {et:TypeId×Value→H} {W:World}
structure PhO(W:World)(a:Addr)(p:Ph)(m:List Int):Prop where
 c0:W.cell? (a.add 0)=some (sv p.name)
 c1:W.cell? (a.add 1)=some p.val
 its:p.Its W
 ns:NsAt W p.refsL m
 fit:p.its.mfit
theorem TR{n:Nat}{c:Value}{y:DataW H×List MemPlace}(h:DataW.trod et Tryz.prog W 0 (λ_=>true) true n 27 [c]=some y)(hw:Wt 27 y.1) :
  ∃(ps:List Ph) (fa:Option Addr) (fc:Nat) (ns:List Int),c=.slice fa ps.length fc∧(ps=[]∨fa=some ⟨blk fa,off fa,none⟩)∧ps.length≤maxLen∧Be W (blk fa) (off fa) ps∧NsAt W (Ap ps) ns∧∀p∈ps,p.its.mfit:=by
 rcases DataW.trod_slice Tryz.underlying27 h with ⟨e1,_⟩|⟨a,len,cap,elems,rest,m,rfl,e1,rfl,_,hL,hM,hl,hB,_⟩
 ·cases e1
  exact ⟨[],none,0,[],rfl,Or.inl rfl,Nat.zero_le _,trivial,trivial,λp hp=>by cases hp⟩
 ·cases e1
  rw [Kt] at hB;have hG:=(hw.slice Tryz.underlying27).2
  have each:∀i,i<len→∃p m,PhO W (a.add (i*2)) p m:=by
   intro i hi;have h1:=hB i hi;obtain ⟨y,hy⟩:∃y,elems[i]?=some y:=⟨_,qg (by omega)⟩;rw [hy] at h1;obtain ⟨cs',h2,h3⟩:=Option.bind_eq_some_iff.1 h1;obtain ⟨_,hN,hC⟩:=World.cells?_some h2;have hH:Wt 58 y.1:=hG _ (List.mem_map.2 ⟨y,List.mem_of_getElem? hy,rfl⟩);obtain ⟨ys,m',rfl,rfl,hD,hE,hf⟩:=DataW.trod_struct Tryz.underlying58 h3;rw [Kt] at hD;obtain ⟨c0,c1,rfl⟩:=PU hD;obtain ⟨y0,hJ⟩:∃y,ys[0]?=some y:=⟨_,qg (by rw [hE];decide)⟩;obtain ⟨y1,hF⟩:∃y,ys[1]?=some y:=⟨_,qg (by rw [hE];decide)⟩;have f0:DataW.trod et Tryz.prog W 0 (λ_=>true) true m' 9 (([c0,c1].drop 0).take (Tryz.prog.cellsOf 9))=some y0:=(hf 0 _ rfl).trans hJ;have f1:DataW.trod et Tryz.prog W 0 (λ_=>true) true m' 55 (([c0,c1].drop 1).take (Tryz.prog.cellsOf 55))=some y1:=(hf 1 _ rfl).trans hF;rw [Gz] at f0;rw [Ks] at f1;have w1:Wt 55 y1.1:=hH.field Tryz.underlying58 (j:=1) rfl (by rw [List.getElem?_map,hF];rfl);obtain ⟨s,e0,_,_⟩:=DataW.trod_string Tryz.underlying9 f0;cases e0;obtain ⟨its,ia,ic,n2,e3,i1,i2,i3,i4,i5⟩:=TU m' c1 y1 f1 w1;subst e3;exact ⟨⟨s.data.toList,ia,ic,its⟩,n2,hC 0 (by omega),hC 1 (by omega),⟨i1,i2,i3⟩,i4,i5⟩
  by_cases h0:len=0
  ·subst h0
   exact ⟨[],some a,cap,[],rfl,Or.inl rfl,Nat.zero_le _,trivial,trivial,λp hp=>by cases hp⟩
  ·obtain ⟨_,_,hI0⟩:=each 0 (by omega)
   have hK:=World.cell?_spot hI0.c0;obtain ⟨b,o,sp⟩:=a;have hA:sp=none:=by simpa [Addr.add] using hK
   subst hA
   have build:∀r j,j+r=len→∃(ps:List Ph) (ns:List Int),ps.length=r∧Be W b (o+j*2) ps∧NsAt W (Ap ps) ns∧∀p∈ps,p.its.mfit:=by
    intro r
    induction r with
    | zero=>intro j _;exact ⟨[],[],rfl,trivial,trivial,λp hp=>by cases hp⟩
    | succ r ihr =>
     intro j hj;obtain ⟨ps,ns,t1,t2,t3,t4⟩:=ihr (j+1) (by omega);obtain ⟨p,m,hI⟩:=each j (by omega);have e:o+(j+1)*2=o+j*2+2:=by omega
     rw [e] at t2;have ad:∀q,((⟨b,o,none⟩:Addr).add (j*2)).add q=⟨b,o+j*2+q,none⟩:=λq=>by rw [AN,AN]
     have d0:=hI.c0;have d1:=hI.c1;rw [ad] at d0 d1
     exact ⟨p::ps,m++ns,by simp [t1],⟨⟨d0,d1,hI.its⟩,t2⟩,hI.ns.append t3,λq hq=>by
      rcases List.mem_cons.1 hq with rfl|hq
      ·exact hI.fit
      ·exact t4 q hq⟩
   obtain ⟨ps,ns,t1,t2,t3,t4⟩:=build len 0 (by omega);simp only [Nat.zero_mul,Nat.add_zero] at t2;exact ⟨ps,some ⟨b,o,none⟩,cap,ns,by rw [t1],Or.inr rfl,by rw [t1];omega,t2,t3,t4⟩
theorem TS{n:Nat}{c:Value}{y:DataW H×List MemPlace}(h:DataW.trod et Tryz.prog W 0 (λ_=>true) true n 28 [c]=some y) :
  ∃(ds:List Dan) (da:Option Addr) (dc:Nat) (ns:List Int),c=.slice da ds.length dc∧(ds=[]∨da=some ⟨blk da,off da,none⟩)∧ds.length≤maxLen∧Bq W (blk da) (off da) ds∧NsAt W (An (blk da) (off da) ds) ns:=by
 obtain ⟨xs,hx⟩:=Ci (enc:=Tv) Tryz.underlying28 Kv (by decide) (λn cs y h=>by
  obtain ⟨rn,r,pn,p,b,m,e⟩:=TW h
  exact ⟨(⟨rn,pn,b,m⟩,r,p),e⟩) h
 obtain ⟨ao,cap,rfl,h1,h2,h3⟩:=DH hx;refine ⟨xs.map (·.1),ao,cap,xs.flatMap λx=>[x.2.1,x.2.2],by rw [List.length_map],?_,by rw [List.length_map];exact h1,?_,?_⟩
 ·rcases h2 with h2|h2
  ·left;rw [h2];rfl
  ·exact Or.inr h2
 ·rcases h3 with h3|h3
  ·rw [h3];trivial
  ·exact (ES h3).1
 ·rcases h3 with h3|h3
  ·rw [h3];trivial
  ·exact (ES h3).2
theorem TT{n:Nat}{cs:List Value}{y:DataW H×List MemPlace}(h:DataW.trod et Tryz.prog W 0 (λ_=>true) true n 30 cs=some y)(hw:Wt 30 y.1) :
  ∃(s:Ls) (ns:List Int),cs=s.cells.toList∧s.At W∧NsAt W s.refs ns∧s.mfit:=by
 obtain ⟨ys,m,rfl,rfl,hl,hA,hf⟩:=DataW.trod_struct Tryz.underlying30 h;rw [P2] at hl;obtain ⟨c0,c1,c2,c3,c4,c5,c6,c7,c8,c9,c10,c11,rfl⟩:=PT hl;obtain ⟨y0,hE⟩:∃y,ys[0]?=some y:=⟨_,qg (by rw [hA];decide)⟩;have f0:DataW.trod et Tryz.prog W 0 (λ_=>true) true m 9 (([c0,c1,c2,c3,c4,c5,c6,c7,c8,c9,c10,c11].drop 0).take (Tryz.prog.cellsOf 9))=some y0:=(hf 0 _ rfl).trans hE;rw [Gz] at f0;obtain ⟨y1,hF⟩:∃y,ys[1]?=some y:=⟨_,qg (by rw [hA];decide)⟩;have f1:DataW.trod et Tryz.prog W 0 (λ_=>true) true m 3 (([c0,c1,c2,c3,c4,c5,c6,c7,c8,c9,c10,c11].drop 1).take (Tryz.prog.cellsOf 3))=some y1:=(hf 1 _ rfl).trans hF;rw [AE] at f1;obtain ⟨y2,hG⟩:∃y,ys[2]?=some y:=⟨_,qg (by rw [hA];decide)⟩;have f2:DataW.trod et Tryz.prog W 0 (λ_=>true) true m 3 (([c0,c1,c2,c3,c4,c5,c6,c7,c8,c9,c10,c11].drop 2).take (Tryz.prog.cellsOf 3))=some y2:=(hf 2 _ rfl).trans hG;rw [AE] at f2;obtain ⟨y3,hH⟩:∃y,ys[3]?=some y:=⟨_,qg (by rw [hA];decide)⟩;have f3:DataW.trod et Tryz.prog W 0 (λ_=>true) true m 3 (([c0,c1,c2,c3,c4,c5,c6,c7,c8,c9,c10,c11].drop 3).take (Tryz.prog.cellsOf 3))=some y3:=(hf 3 _ rfl).trans hH;rw [AE] at f3;obtain ⟨y4,hI⟩:∃y,ys[4]?=some y:=⟨_,qg (by rw [hA];decide)⟩;have f4:DataW.trod et Tryz.prog W 0 (λ_=>true) true m 22 (([c0,c1,c2,c3,c4,c5,c6,c7,c8,c9,c10,c11].drop 4).take (Tryz.prog.cellsOf 22))=some y4:=(hf 4 _ rfl).trans hI;rw [OV] at f4;obtain ⟨y5,hJ⟩:∃y,ys[5]?=some y:=⟨_,qg (by rw [hA];decide)⟩;have f5:DataW.trod et Tryz.prog W 0 (λ_=>true) true m 23 (([c0,c1,c2,c3,c4,c5,c6,c7,c8,c9,c10,c11].drop 6).take (Tryz.prog.cellsOf 23))=some y5:=(hf 5 _ rfl).trans hJ;rw [OW] at f5;obtain ⟨y6,hK⟩:∃y,ys[6]?=some y:=⟨_,qg (by rw [hA];decide)⟩;have f6:DataW.trod et Tryz.prog W 0 (λ_=>true) true m 24 (([c0,c1,c2,c3,c4,c5,c6,c7,c8,c9,c10,c11].drop 7).take (Tryz.prog.cellsOf 24))=some y6:=(hf 6 _ rfl).trans hK;rw [OX] at f6;obtain ⟨y7,hL⟩:∃y,ys[7]?=some y:=⟨_,qg (by rw [hA];decide)⟩;have f7:DataW.trod et Tryz.prog W 0 (λ_=>true) true m 25 (([c0,c1,c2,c3,c4,c5,c6,c7,c8,c9,c10,c11].drop 8).take (Tryz.prog.cellsOf 25))=some y7:=(hf 7 _ rfl).trans hL;rw [OY] at f7;obtain ⟨y8,hM⟩:∃y,ys[8]?=some y:=⟨_,qg (by rw [hA];decide)⟩;have f8:DataW.trod et Tryz.prog W 0 (λ_=>true) true m 26 (([c0,c1,c2,c3,c4,c5,c6,c7,c8,c9,c10,c11].drop 9).take (Tryz.prog.cellsOf 26))=some y8:=(hf 8 _ rfl).trans hM;rw [OZ] at f8;obtain ⟨y9,hC⟩:∃y,ys[9]?=some y:=⟨_,qg (by rw [hA];decide)⟩;have f9:DataW.trod et Tryz.prog W 0 (λ_=>true) true m 27 (([c0,c1,c2,c3,c4,c5,c6,c7,c8,c9,c10,c11].drop 10).take (Tryz.prog.cellsOf 27))=some y9:=(hf 9 _ rfl).trans hC;rw [P0] at f9;obtain ⟨y10,hB⟩:∃y,ys[10]?=some y:=⟨_,qg (by rw [hA];decide)⟩;have f10:DataW.trod et Tryz.prog W 0 (λ_=>true) true m 28 (([c0,c1,c2,c3,c4,c5,c6,c7,c8,c9,c10,c11].drop 11).take (Tryz.prog.cellsOf 28))=some y10:=(hf 10 _ rfl).trans hB;rw [P1] at f10;have w9:Wt 27 y9.1:=hw.field Tryz.underlying30 (j:=9) rfl (by rw [List.getElem?_map,hC];rfl);obtain ⟨s,e0,_,_⟩:=DataW.trod_string Tryz.underlying9 f0;cases e0;obtain ⟨i1,e1,_,_⟩:=DataW.trod_int Tryz.underlying3 f1;cases e1;obtain ⟨i2,e2,_,_⟩:=DataW.trod_int Tryz.underlying3 f2;cases e2;obtain ⟨i3,e3,_,_⟩:=DataW.trod_int Tryz.underlying3 f3;cases e3;obtain ⟨zs,m2,_,_,hP,hQ,hD⟩:=DataW.trod_array Tryz.underlying22 f4;obtain ⟨z0,hN⟩:∃y,zs[0]?=some y:=⟨_,qg (by omega)⟩;obtain ⟨z1,hO⟩:∃y,zs[1]?=some y:=⟨_,qg (by omega)⟩
 have g0:DataW.trod et Tryz.prog W 0 (λ_=>true) true m2 3 [c4]=some z0:=by
  have:=hD 0 (by omega);rw [AE,hN] at this;exact this
 have g1:DataW.trod et Tryz.prog W 0 (λ_=>true) true m2 3 [c5]=some z1:=by
  have:=hD 1 (by omega);rw [AE,hO] at this;exact this
 obtain ⟨i4,e4,_,_⟩:=DataW.trod_int Tryz.underlying3 g0;cases e4;obtain ⟨i5,e5,_,_⟩:=DataW.trod_int Tryz.underlying3 g1;cases e5;obtain ⟨l5,r5⟩:=Ci (enc:=D8) Tryz.underlying23 Ku (by decide) (λn cs y h=>by obtain ⟨nm,x,y,f,e⟩:=TV h;exact ⟨⟨nm,x,y,f⟩,e⟩) f5;obtain ⟨a5,k5,rfl,-,-,-⟩:=DH r5;obtain ⟨l6,r6⟩:=Ci (enc:=C5) Tryz.underlying24 IU (by decide) (λn cs y h=>by obtain ⟨b,t,s,e⟩:=RT h;exact ⟨⟨b,t,s⟩,e⟩) f6;obtain ⟨a6,k6,rfl,-,-,-⟩:=DH r6;obtain ⟨l7,r7⟩:=Ci (enc:=CY) Tryz.underlying25 IV (by decide) (λn cs y h=>by obtain ⟨b,k,l,hh,e⟩:=RU h;exact ⟨⟨b,k,l,hh⟩,e⟩) f7;obtain ⟨a7,k7,rfl,-,-,-⟩:=DH r7;obtain ⟨l8,r8⟩:=Ci (enc:=CW) Tryz.underlying26 IW (by decide) (λn cs y h=>by obtain ⟨f,t,l,hh,e⟩:=RV h;exact ⟨⟨f,t,l,hh⟩,e⟩) f8;obtain ⟨a8,k8,rfl,-,-,-⟩:=DH r8;obtain ⟨ps,fa,fc,n1,rfl,p1,p2,p3,p4,p5⟩:=TR f9 w9;obtain ⟨ds,da,dc,n2,rfl,d1,d2,d3,d4⟩:=TS f10;exact ⟨⟨s.data.toList,i1,i2,i3,i4,i5,a5,k5,l5,a6,k6,l6,a7,k7,l7,a8,k8,l8,fa,fc,ps,da,dc,ds⟩,n1++n2,rfl,⟨r5,r6,r7,r8,p1,p2,p3,d1,d2,d3⟩,p4.append d4,p5⟩
end
theorem KQ:laidOutB Tryz.prog=true:=by kernel_rfl
section
variable {H:Type} {enc:TypeId×Value→H} {W:World}
theorem TZ{base:Nat}{v:Value}{d:DataW H}{p:List MemPlace}(hv:Value.okWide Tryz.prog W .any base 30 v)(h:DataW.Trod enc Tryz.prog W 0 (λ_=>true) true 30 v d p)(hw:Wt 30 d) :
  ∃(s:Ls) (ns:List Int),v=s.val∧s.At W∧NsAt W s.refs ns∧s.mfit:=by
 obtain ⟨cs,rfl,hA⟩:=okWide_struct Tryz.underlying30 hv;obtain ⟨fuel,hf⟩:=h;obtain ⟨s,ns,e,h1,h2,h3⟩:=TT hf hw;refine ⟨s,ns,?_,h1,h2,h3⟩;unfold Ls.val
 congr 1
 exact Array.toList_inj.1 e
theorem VH{v:Value}{d:DataW H}{p:List MemPlace}(h:DataW.Trod enc Tryz.prog W 0 (λ_=>true) true 30 v d p)(hA:∀x∈p,x.block<W.heap.size){W':World}(hb:Below W.heap.size W W') :
  DataW.Trod enc Tryz.prog W' 0 (λb=>decide (b<W.heap.size)) true 30 v d p :=
 Below.trod KQ (by kernel_rfl) (of_decide_eq_true (by kernel_rfl)) h hb hA
theorem QX{W:World}(h:W.ShapedOpen Tryz.prog):Env W:=cell_of_shapedOpen_int (g:=1) (t:=3) (zero:=#[int i64 0]) h (of_decide_eq_true (by kernel_rfl)) (by kernel_rfl) rfl (by kernel_rfl) (by kernel_rfl) Tryz.underlying3
end
end
end Go.Proofs.YtbkemlgfdklpfaaGreatDoor
