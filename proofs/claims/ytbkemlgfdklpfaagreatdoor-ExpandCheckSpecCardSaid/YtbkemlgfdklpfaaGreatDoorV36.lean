/- Contracts and plain laws on the way to the statement: part 36. -/
import Derived.Test.YtbkemlgfdklpfaaGreatDoorV35
import Derived.Laws.CopyOwn
import Derived.Test.YtbkemlgfdklpfaaGreatDoorV4
set_option autoImplicit true
set_option relaxedAutoImplicit true
set_option linter.unusedVariables false
set_option linter.unusedSimpArgs false
set_option maxRecDepth 100000
set_option maxHeartbeats 16000000
namespace Go.Proofs.YtbkemlgfdklpfaaGreatDoor
open Go.Value (int)
open Go.IntKind (i64)
section
open Go Go.RowKit
def ND(P Q:Int):Int:=P*P-Q*Q
def NE(P Q:Int):Int:=2*P*Q
def KF(P Q:Int):Int:=P*P+Q*Q
def mkA(P Q:Int):Int:=(ND P Q).tdiv (D9 (ND P Q) (NE P Q) (KF P Q))
def mkB(P Q:Int):Int:=(NE P Q).tdiv (D9 (ND P Q) (NE P Q) (KF P Q))
def mkC(P Q:Int):Int:=KF P Q / D9 (ND P Q) (NE P Q) (KF P Q)
theorem Gd{P Q:Int}(hP:0≤P∧P≤127)(hQ:0≤Q∧Q≤127):0≤P*Q∧P*Q≤16129:=by
  refine ⟨Int.mul_nonneg hP.1 hQ.1,?_⟩;have:=Int.mul_le_mul hP.2 hQ.2 hQ.1 (by omega:(0:Int)≤127);omega
theorem MM{P Q:Int}(hP:0≤P∧P≤127)(hQ:0≤Q∧Q≤127)(h:¬(P=0∧Q=0)):1≤KF P Q∧KF P Q≤32258:=by
  have a:=Gd hP hP;have b:=Gd hQ hQ;unfold KF;refine ⟨?_,by omega⟩;rcases Int.lt_or_le 0 P with h1|h1
  · have:=Int.mul_pos h1 h1;omega
  · have:0<Q:=by
      rcases Int.lt_or_le 0 Q with h2|h2
      · exact h2
      · exact absurd ⟨by omega,by omega⟩ h
    have:=Int.mul_pos this this;omega
theorem J8(tmps:Array Value)(w:World)(g:Nat)(x y z n:Value)(h4:tmps.getD 4 undef=.pointer (some ⟨g,0,none⟩))(hg:w.heap[g]?=some (.cells #[x,y,z] 34 (0,0)))(h5:tmps.getD 5 undef=n) :
    (results Tryz.f31 tmps).run Tryz.prog w=.ok (.tuple #[.agg #[x,y,z],n]) w:=by
  have hA:tmps[4]?.getD undef=.pointer (some ⟨g,0,none⟩):=by simpa using h4
  have hB:tmps[5]?.getD undef=n:=by simpa using h5
  simp [results,Tryz.results31,go_sem,hA,hB,Aa hg 0 rfl,Aa hg 1 rfl,Aa hg 2 rfl]
def Re(P Q:Int):Value:=if P=0∧Q=0 then .tuple #[.agg #[int i64 0,int i64 0,int i64 0],int i64 1] else .tuple #[.agg #[int i64 (mkA P Q),int i64 (mkB P Q),int i64 (mkC P Q)],int i64 0]
noncomputable def OQ:Code:=(Tryz.f31.body).getD .skip
noncomputable def Ib:Code:=Ab 2 OQ
theorem NH(P Q x y z:Int)(hP:0≤P∧P≤127)(hQ:0≤Q∧Q≤127)(w w1:World)(g:Nat)(hg:w.heap.size≤g)(hB:Below w.heap.size w w1)(hA:w1.heap[g]?=some (.cells #[int i64 0,int i64 0,int i64 0] 34 (0,0)))
    (hl:∀w,Calls Tryz.prog 61 #[.agg #[int i64 (P*P-Q*Q),int i64 (2*P*Q),int i64 (P*P+Q*Q)]] w λe w'=>e=.returned (.agg #[int i64 x,int i64 y,int i64 z])∧Below w.heap.size w w'):
    Code.wp Tryz.prog Ib (bodyPost Tryz.prog Tryz.f31 λe w'=>e=.returned (.tuple #[.agg #[int i64 x,int i64 y,int i64 z],int i64 0])∧Below w.heap.size w w') { tmps:=#[int i64 P,int i64 Q,e2,e3,.pointer (some ⟨g,0,none⟩),e5,e6,e7,e8,e9,ea,eb,ec,ed,ee,ef,eg,eh,ei,ej,ek,el,em,en,eo,ep,eq,er,es,et,eu,ev,ew,ex,ey,ez,eA,eB,eC,eD,eE,eF,eG,eH,eI],defers:=[] } w1:=by
  have a1:=Gd hP hP;have a2:=Gd hQ hQ;have a3:=Gd (P:=P) (Q:=Q) hP hQ;have W1:IntKind.i64.wrap (P*P)=P*P:=IntWalk.i64_in _ (by omega);have W2:IntKind.i64.wrap (Q*Q)=Q*Q:=IntWalk.i64_in _ (by omega);have W3:IntKind.i64.wrap (P*P-Q*Q)=P*P-Q*Q:=IntWalk.i64_in _ (by omega);have W4:IntKind.i64.wrap (2*P)=2*P:=IntWalk.i64_in _ (by omega);have W5:IntKind.i64.wrap (2*P*Q)=2*P*Q:=IntWalk.i64_in _ (by rw [Int.mul_assoc];omega);have W6:IntKind.i64.wrap (P*P+Q*Q)=P*P+Q*Q:=IntWalk.i64_in _ (by omega);have hC:g<w1.heap.size:=(qs.1 hA).1;have HL:=qh hl;have HB:=qh hB;have G0:=qh hA;have HG:=qh hg;have hD:=qh hC;clear hl hB hA a1 a2 a3 hP hQ hg hC;unfold Ib OQ
  conv=>arg 2;whnf
  go_wp2_with fail;refine (HL.out _).mono ?_;rintro e w2 ⟨rfl,b2⟩;have g2:=(b2.block _ hD.out).trans G0.out;have B2:=qh (HB.out.trans (b2.mono HB.out.size));have G2:=qh g2;clear b2 g2
  go_wp2_with (refine wpList_store_row rfl 34 _ _ rfl g #[int i64 x,int i64 y,int i64 z] rfl rfl 34 _ G2.out (by kernel_rfl) rfl (by simp [Value.oneCell']) ?_);refine bodyPost_ret (J8 _ _ g _ _ _ _ rfl (setRow_heap _ _ _ _ _ _ G2.out) rfl) rfl ⟨rfl,below_setRow B2.out HG.out _⟩
theorem Py(P Q:Int)(hP:0≤P∧P≤127)(hQ:0≤Q∧Q≤127)(w:World):Calls Tryz.prog 31 #[int i64 P,int i64 Q] w λe w'=>e=.returned (Re P Q)∧Below w.heap.size w w':=by
  have a1:=Gd hP hP;have a2:=Gd hQ hQ;have a3:=Gd (P:=P) (Q:=Q) hP hQ;by_cases h0:P=0∧Q=0
  · obtain ⟨rfl, rfl⟩ := h0
    have g0:=heap_alloc_new w (.cells #[int i64 0,int i64 0,int i64 0] 34);have hb:Below w.heap.size w (w.alloc (.cells #[int i64 0,int i64 0,int i64 0] 34)):=(Below.refl _ w).alloc (qn _) _;have G0:=qh g0;have HB:=qh hb;clear g0 hb a1 a2 a3 hP hQ;go_enter Tryz.func31,Tryz.ntmps31
    go_wp2_with (first|(refine wpList_load_row rfl 34 _ rfl w.heap.size rfl 34 _ (0,0) _ G0.out Tryz.underlying34 rfl (by kernel_rfl) ?_;simp only [Act.put,qD,qE,qF])|(refine wpList_store_row rfl 34 _ _ rfl w.heap.size _ rfl rfl 34 _ (heap_alloc_new w _) (by kernel_rfl) rfl (by simp [Value.oneCell']) ?_;rw [World.setRow_alloc_new]));refine bodyPost_ret (J8 _ _ w.heap.size _ _ _ _ rfl (heap_alloc_new w _) rfl) rfl ⟨rfl,HB.out⟩
  · have hB := fun w => I8 (ND P Q) (NE P Q) (KF P Q) w (by unfold ND; omega) (by unfold NE; rw [Int.mul_assoc]; omega) ⟨(MM hP hQ h0).1, by have := (MM hP hQ h0).2; omega⟩
    have hv:Re P Q=.tuple #[.agg #[int i64 (mkA P Q),int i64 (mkB P Q),int i64 (mkC P Q)],int i64 0]:=by unfold Re;rw [if_neg h0]
    have hA:∀w,Calls Tryz.prog 61 #[.agg #[int i64 (P*P-Q*Q),int i64 (2*P*Q),int i64 (P*P+Q*Q)]] w λe w'=>e=.returned (.agg #[int i64 (mkA P Q),int i64 (mkB P Q),int i64 (mkC P Q)])∧Below w.heap.size w w':=hB
    have HL:=qh hA;have HV:=qh hv;have HP:=qh hP;have HQ:=qh hQ
    have f0:(P==0)=false∨((P==0)=true∧(Q==0)=false):=by
      by_cases h1:P=0
      · exact Or.inr ⟨by simpa using h1,by simpa using λh2=>h0 ⟨h1,h2⟩⟩
      · exact Or.inl (by simpa using h1)
    have hE:Below w.heap.size w (w.alloc (.cells #[int i64 0,int i64 0,int i64 0] 34)):=(Below.refl _ w).alloc (qn _) _;have g0:=heap_alloc_new w (.cells #[int i64 0,int i64 0,int i64 0] 34);have hH:=qh hE;have G0:=qh g0;clear hB hA a1 a2 a3 h0 hE g0 hv;rw [HV.out];generalize mkA P Q=x at *;generalize mkB P Q=y at *;generalize mkC P Q=z at *;clear HV;go_enter Tryz.func31,Tryz.ntmps31;change Code.wp Tryz.prog (.seq (.region 0 _ _) (.seq _ Ib)) _ _ _;rcases Int.lt_trichotomy P Q with ho|ho|ho
    all_goals
      first
      | (have hC : (if Q < P then Q else P) = P := if_neg (by omega)
         have hD:(if P<Q then Q else P)=Q:=if_pos (by omega);have hF:¬P < -127:=by omega
         have hG:¬127<Q:=by omega
         skip)
      | (have hC : (if Q < P then Q else P) = Q := if_pos (by omega)
         have hD:(if P<Q then Q else P)=P:=if_neg (by omega);have hF:¬Q < -127:=by omega
         have hG:¬127<P:=by omega
         skip)
      | (have hF : ¬ P < -127 := by omega
         have hG:¬127<P:=by omega
         subst ho
         skip)
    all_goals
      rcases f0 with f1|⟨f1,f2⟩
      all_goals
        first
        | (exfalso;rw [f1] at f2;cases f2)
        | (go_wp2_with fail
           exact NH _ _ x y z HP.out HQ.out w _ w.heap.size (qn _) hH.out G0.out HL.out)
end
section
open Go Go.RowKit Go.Deep
def Ln(m:Mov)(n:Int):Int:=if m.wn=[] then 0 else 1+n
def NI(d:Int):Int:=if inB d 0 8 then (if d≤1 then d else 10-d) else 0
def Gg(s:Int):Int:=if s=1 then 2 else if s=2 then 1 else s
def Jf(k s:Int):Int:=if k=6 then 8-s else s
def Oi(m:Mov)(n:Int)(b:Bool):Sgn:=⟨0,0,0,m.mark,m.kind,if b then Gg m.side else m.side,if b then NI m.dir else m.dir,m.level,if b then Jf m.kind m.size else m.size,Ln m n,m.fa,m.fb,m.ta,m.tb⟩
theorem Rf(d:Int):∃e,NJ d=.tuple #[int i64 (NI d),int i64 e]:=⟨_,rfl⟩
def S5(s:Sgn):Value:=.agg (Av s).toArray
theorem Ch(tmps:Array Value)(w:World)(g:Nat)(h4:tmps.getD 4 undef=.pointer (some ⟨g,0,none⟩))(hg:w.heap[g]?=some (.cells #[c0,c1,c2,c3,c4,c5,c6,c7,c8,c9,c10,c11,c12,c13] 54 (0,0))) :
  (results Tryz.f33 tmps).run Tryz.prog w=.ok (.agg #[c0,c1,c2,c3,c4,c5,c6,c7,c8,c9,c10,c11,c12,c13]) w:=by
 have hA:tmps[4]?.getD undef=.pointer (some ⟨g,0,none⟩):=by simpa using h4
 simp [results,Tryz.results33,go_sem,hA,Aa hg 0 rfl,Aa hg 1 rfl,Aa hg 2 rfl,Aa hg 3 rfl,Aa hg 4 rfl,Aa hg 5 rfl,Aa hg 6 rfl,Aa hg 7 rfl,Aa hg 8 rfl,Aa hg 9 rfl,Aa hg 10 rfl,Aa hg 11 rfl,Aa hg 12 rfl,Aa hg 13 rfl]
noncomputable def OR:Code:=(Tryz.f33.body).getD .skip
noncomputable def JO:Code:=Ab 4 OR
theorem oR{W:World}{a R X k:Nat}{o:Obj}{v:Value}(h:W.heap[R]?=some o)(hs:a<R∧R<X):(W.setCell ⟨X,k,none⟩ v).heap[R]?=some o:=by
 rw [heap_setCell_other _ _ _ _ (show R≠X by omega)];exact h
theorem bX{B W:World}{a R X k:Nat}{v:Value}(h:Below a B W)(hs:a<R∧R<X):Below a B (W.setCell ⟨X,k,none⟩ v):=h.setCell (show a≤X by omega) v
theorem Oj(B0 V:World)(R X:Nat)(mk kd sd dr lv sz wt fa fb ta tb:Int)(hJ:IntKind.i64.wrap (8-sz)=8-sz)(hS:B0.heap.size<R∧R<X)(hR:V.heap[R]?=some (.cells #[int i64 0,int i64 0,int i64 0,int i64 0,int i64 0,int i64 0,int i64 0,int i64 0,int i64 0,int i64 0,int i64 0,int i64 0,int i64 0,int i64 0] 54 (0,0)))(hX:V.heap[X]?=some (.cells #[int i64 0,int i64 0,int i64 0,int i64 mk,int i64 kd,int i64 sd,int i64 dr,int i64 lv,int i64 sz,int i64 wt,int i64 fa,int i64 fb,int i64 ta,int i64 tb] 54 (0,0)))(hB:Below B0.heap.size B0 V)(e0 e1 e2 e3 e6 e7 e8 e9 ea eb ec ed ee ef eg eh ei ej ek el em en eo ep eq er es et eu ev ew ex ey ez eA eB eC eD eE eF eG eH eI eJ eK eL eM eN eO eP eQ eR eS eT eU eV:Value) :
  Code.wp Tryz.prog JO (bodyPost Tryz.prog Tryz.f33 λe w'=>e=.returned (.agg #[int i64 0,int i64 0,int i64 0,int i64 mk,int i64 kd,int i64 (Gg sd),int i64 (NI dr),int i64 lv,int i64 (Jf kd sz),int i64 wt,int i64 fa,int i64 fb,int i64 ta,int i64 tb])∧Below B0.heap.size B0 w') { tmps:=#[e0,e1,e2,e3,.pointer (some ⟨R,0,none⟩),.pointer (some ⟨X,0,none⟩),e6,e7,e8,e9,ea,eb,ec,ed,ee,ef,eg,eh,ei,ej,ek,el,em,en,eo,ep,eq,er,es,et,eu,ev,ew,ex,ey,ez,eA,eB,eC,eD,eE,eF,eG,eH,eI,eJ,eK,eL,eM,eN,eO,eP,eQ,eR,eS,eT,eU,eV],defers:=[] } V:=by
 have CM:=λV=>JK dr V
 obtain ⟨e9,hF⟩:=Rf dr;simp only [hF] at CM;have hG:R<V.heap.size:=(qs.1 hR).1;have hH:X<V.heap.size:=(qs.1 hX).1;have y6:=Aa hX 6 rfl;have hC:=qh CM;have HR:=qh hR;have HX:=qh hX;have HB:=qh hB;have HS:=qh hS;have hK:=qh hG;have hL:=qh hH;clear CM hF hG hH hR hX hB hS;have g2:=HX.out;have hA:=HR;have hD:=HB;have x0:=Aa g2 0 rfl;have x1:=Aa g2 1 rfl;have x2:=Aa g2 2 rfl;have x3:=Aa g2 3 rfl;have x4:=Aa g2 4 rfl;have x5:=Aa g2 5 rfl;have x6:=Aa g2 6 rfl;have x7:=Aa g2 7 rfl;have x8:=Aa g2 8 rfl;have x9:=Aa g2 9 rfl;have x10:=Aa g2 10 rfl;have x11:=Aa g2 11 rfl;have x12:=Aa g2 12 rfl;have x13:=Aa g2 13 rfl;have fx:∀q,V.frozen? ⟨X,q,none⟩=false:=λq=>(show FreeB V X from ⟨_,_,g2⟩).free q
 have f5:=fx 5;have f6:=fx 6;have f8:=fx 8;clear fx g2 y6;unfold JO OR
 conv=>arg 2;whnf
 have k6:(kd==6)=true∨(kd==6)=false:=by cases kd==6<;>simp
 have hE:Jf kd sz=if (kd==6)=true then 8-sz else sz:=by unfold Jf;by_cases h:kd=6<;>simp [h]
 have hI:sd=1∨sd=2∨((sd==1)=false∧(sd==2)=false∧Gg sd=sd):=by
  by_cases h:sd=1
  ·exact Or.inl h
  ·by_cases h2:sd=2
   ·exact Or.inr (Or.inl h2)
   ·exact Or.inr (Or.inr ⟨by simpa using h,by simpa using h2,by unfold Gg;rw [if_neg h,if_neg h2]⟩)
 rw [hE];have HK:=qh hE;clear hE HK;generalize NI dr=dm at *;rcases hI with rfl|rfl|⟨h1,h2,h3⟩
 ·rw [show Gg 1=2 from rfl]
  rcases k6 with k6|k6
  ·simp only [k6,if_true,Bool.false_eq_true,if_false]
   go_wp2_with fail;refine (hC.out _).mono ?_;rintro e W2 ⟨rfl,rfl⟩
   go_wp2_with (refine wpList_store_row rfl 54 _ _ rfl R #[int i64 0,int i64 0,int i64 0,int i64 mk,int i64 kd,int i64 2,int i64 dm,int i64 lv,int i64 (8-sz),int i64 wt,int i64 fa,int i64 fb,int i64 ta,int i64 tb] rfl rfl 54 _ (oR (oR (oR hA.out HS.out) HS.out) HS.out) (by kernel_rfl) rfl (by simp [Value.oneCell']) ?_);refine bodyPost_ret (Ch _ _ R rfl (setRow_heap _ _ _ _ _ _ (oR (oR (oR hA.out HS.out) HS.out) HS.out))) rfl ⟨rfl,below_setRow (bX (bX (bX hD.out HS.out) HS.out) HS.out) (by have:=HS.out;omega) _⟩
  ·simp only [k6,if_true,Bool.false_eq_true,if_false]
   go_wp2_with fail;refine (hC.out _).mono ?_;rintro e W2 ⟨rfl,rfl⟩
   go_wp2_with (refine wpList_store_row rfl 54 _ _ rfl R #[int i64 0,int i64 0,int i64 0,int i64 mk,int i64 kd,int i64 2,int i64 dm,int i64 lv,int i64 sz,int i64 wt,int i64 fa,int i64 fb,int i64 ta,int i64 tb] rfl rfl 54 _ (oR (oR hA.out HS.out) HS.out) (by kernel_rfl) rfl (by simp [Value.oneCell']) ?_);refine bodyPost_ret (Ch _ _ R rfl (setRow_heap _ _ _ _ _ _ (oR (oR hA.out HS.out) HS.out))) rfl ⟨rfl,below_setRow (bX (bX hD.out HS.out) HS.out) (by have:=HS.out;omega) _⟩
 ·rw [show Gg 2=1 from rfl]
  rcases k6 with k6|k6
  ·simp only [k6,if_true,Bool.false_eq_true,if_false]
   go_wp2_with fail;refine (hC.out _).mono ?_;rintro e W2 ⟨rfl,rfl⟩
   go_wp2_with (refine wpList_store_row rfl 54 _ _ rfl R #[int i64 0,int i64 0,int i64 0,int i64 mk,int i64 kd,int i64 1,int i64 dm,int i64 lv,int i64 (8-sz),int i64 wt,int i64 fa,int i64 fb,int i64 ta,int i64 tb] rfl rfl 54 _ (oR (oR (oR hA.out HS.out) HS.out) HS.out) (by kernel_rfl) rfl (by simp [Value.oneCell']) ?_);refine bodyPost_ret (Ch _ _ R rfl (setRow_heap _ _ _ _ _ _ (oR (oR (oR hA.out HS.out) HS.out) HS.out))) rfl ⟨rfl,below_setRow (bX (bX (bX hD.out HS.out) HS.out) HS.out) (by have:=HS.out;omega) _⟩
  ·simp only [k6,if_true,Bool.false_eq_true,if_false]
   go_wp2_with fail;refine (hC.out _).mono ?_;rintro e W2 ⟨rfl,rfl⟩
   go_wp2_with (refine wpList_store_row rfl 54 _ _ rfl R #[int i64 0,int i64 0,int i64 0,int i64 mk,int i64 kd,int i64 1,int i64 dm,int i64 lv,int i64 sz,int i64 wt,int i64 fa,int i64 fb,int i64 ta,int i64 tb] rfl rfl 54 _ (oR (oR hA.out HS.out) HS.out) (by kernel_rfl) rfl (by simp [Value.oneCell']) ?_);refine bodyPost_ret (Ch _ _ R rfl (setRow_heap _ _ _ _ _ _ (oR (oR hA.out HS.out) HS.out))) rfl ⟨rfl,below_setRow (bX (bX hD.out HS.out) HS.out) (by have:=HS.out;omega) _⟩
 ·rw [h3];clear h3
  rcases k6 with k6|k6
  ·simp only [k6,if_true,Bool.false_eq_true,if_false]
   go_wp2_with fail;refine (hC.out _).mono ?_;rintro e W2 ⟨rfl,rfl⟩
   go_wp2_with (refine wpList_store_row rfl 54 _ _ rfl R #[int i64 0,int i64 0,int i64 0,int i64 mk,int i64 kd,int i64 sd,int i64 dm,int i64 lv,int i64 (8-sz),int i64 wt,int i64 fa,int i64 fb,int i64 ta,int i64 tb] rfl rfl 54 _ (oR (oR hA.out HS.out) HS.out) (by kernel_rfl) rfl (by simp [Value.oneCell']) ?_);refine bodyPost_ret (Ch _ _ R rfl (setRow_heap _ _ _ _ _ _ (oR (oR hA.out HS.out) HS.out))) rfl ⟨rfl,below_setRow (bX (bX hD.out HS.out) HS.out) (by have:=HS.out;omega) _⟩
  ·simp only [k6,if_true,Bool.false_eq_true,if_false]
   go_wp2_with fail;refine (hC.out _).mono ?_;rintro e W2 ⟨rfl,rfl⟩
   go_wp2_with (refine wpList_store_row rfl 54 _ _ rfl R #[int i64 0,int i64 0,int i64 0,int i64 mk,int i64 kd,int i64 sd,int i64 dm,int i64 lv,int i64 sz,int i64 wt,int i64 fa,int i64 fb,int i64 ta,int i64 tb] rfl rfl 54 _ (oR hA.out HS.out) (by kernel_rfl) rfl (by simp [Value.oneCell']) ?_);refine bodyPost_ret (Ch _ _ R rfl (setRow_heap _ _ _ _ _ _ (oR hA.out HS.out))) rfl ⟨rfl,below_setRow (bX hD.out HS.out) (by have:=HS.out;omega) _⟩
theorem Qj(m:Mov)(n:Int)(b:Bool)(w:World)(hn:-1000000≤n∧n≤1000000)(hs:-1000000≤m.size∧m.size≤1000000) :
  Calls Tryz.prog 33 #[.agg #[int i64 m.mark,int i64 m.kind,int i64 m.side,int i64 m.dir,int i64 m.level,int i64 m.size,sv m.wn,int i64 n,int i64 m.fa,int i64 m.fb,int i64 m.ta,int i64 m.tb],.bool b] w λe w'=>e=.returned (S5 (Oi m n b))∧Below w.heap.size w w':=by
 cases m with
 | mk mk kd sd dr lv sz wn fa fb ta tb =>
 simp only at hs ⊢;obtain ⟨W1,hG,g1,b1,s1⟩:=Af w #[int i64 mk,int i64 kd,int i64 sd,int i64 dr,int i64 lv,int i64 sz,sv wn,int i64 n,int i64 fa,int i64 fb,int i64 ta,int i64 tb] 92;obtain ⟨R,hR⟩:∃R,W1.heap.size=R:=⟨_,rfl⟩;obtain ⟨W2,hH,g2,b2,s2⟩:=Af W1 #[int i64 0,int i64 0,int i64 0,int i64 0,int i64 0,int i64 0,int i64 0,int i64 0,int i64 0,int i64 0,int i64 0,int i64 0,int i64 0,int i64 0] 54;obtain ⟨X,hX⟩:∃X,W2.heap.size=X:=⟨_,rfl⟩;obtain ⟨W3,hI,g3,b3,s3⟩:=Af W2 #[int i64 0,int i64 0,int i64 0,int i64 mk,int i64 kd,int i64 sd,int i64 dr,int i64 lv,int i64 sz,int i64 0,int i64 fa,int i64 fb,int i64 ta,int i64 tb] 54;rw [hR] at g2;rw [hX] at g3;have hJ:IntKind.i64.wrap (1+n)=1+n:=IntWalk.i64_in _ (by omega);have hF:IntKind.i64.wrap (8-sz)=8-sz:=IntWalk.i64_in _ (by omega);have hM2:=Ah b2 g1;have hA:=Ah b3 hM2;have hB:=Ah b3 g2;have hC:w.heap.size<R:=by omega
 have hD:R<X:=by omega
 have y0:=Aa hM2 0 rfl;have y1:=Aa hM2 1 rfl;have y2:=Aa hM2 2 rfl;have y3:=Aa hM2 3 rfl;have y4:=Aa hM2 4 rfl;have y5:=Aa hM2 5 rfl;have y6:=Aa hM2 6 rfl;have y7:=Aa hM2 7 rfl;have y8:=Aa hM2 8 rfl;have y9:=Aa hM2 9 rfl;have y10:=Aa hM2 10 rfl;have y11:=Aa hM2 11 rfl;have u6:W3.cell? ⟨w.heap.size,6,none⟩=some (sv wn):=Aa hA 6 rfl;have u7:W3.cell? ⟨w.heap.size,7,none⟩=some (int i64 n):=Aa hA 7 rfl;have x0:=Aa g3 0 rfl;have x1:=Aa g3 1 rfl;have x2:=Aa g3 2 rfl;have x3:=Aa g3 3 rfl;have x4:=Aa g3 4 rfl;have x5:=Aa g3 5 rfl;have x6:=Aa g3 6 rfl;have x7:=Aa g3 7 rfl;have x8:=Aa g3 8 rfl;have x9:=Aa g3 9 rfl;have x10:=Aa g3 10 rfl;have x11:=Aa g3 11 rfl;have x12:=Aa g3 12 rfl;have x13:=Aa g3 13 rfl;have fx:∀q,W3.frozen? ⟨X,q,none⟩=false:=λq=>(show FreeB W3 X from ⟨_,_,g3⟩).free q
 have f5:=fx 5;have f6:=fx 6;have f8:=fx 8;have f9:=fx 9;have HR:=qh hB;have HB:=qh (Ag b1 (Ag b2 b3));have HS:=qh (And.intro hC hD);have HX:=qh g3;have HQ:=qh (And.intro hR hX);clear g1 b1 s1 g2 b2 s2 g3 b3 s3 hM2 hA hB fx hC hD hn hs;have hE:=qh (λV wt=>Oj w V R X mk kd sd dr lv sz wt fa fb ta tb hF HS.out)
 cases b with
 | false =>
  cases wn with
  | nil =>
   go_enter Tryz.func33,Tryz.ntmps33
   go_wp2_with (refine wpList_store_row rfl 54 _ _ rfl R #[int i64 0,int i64 0,int i64 0,int i64 mk,int i64 kd,int i64 sd,int i64 dr,int i64 lv,int i64 sz,int i64 0,int i64 fa,int i64 fb,int i64 ta,int i64 tb] rfl rfl 54 _ HR.out (by kernel_rfl) rfl (by simp [Value.oneCell']) ?_);refine bodyPost_ret (Ch _ _ R rfl (setRow_heap _ _ _ _ _ _ HR.out)) rfl ⟨?_,below_setRow HB.out (by have:=HS.out;omega) _⟩;simp only [S5,Oi,Av,Ln];rfl
  | cons c l =>
   go_enter Tryz.func33,Tryz.ntmps33
   go_wp2_with (refine wpList_store_row rfl 54 _ _ rfl R #[int i64 0,int i64 0,int i64 0,int i64 mk,int i64 kd,int i64 sd,int i64 dr,int i64 lv,int i64 sz,int i64 (1+n),int i64 fa,int i64 fb,int i64 ta,int i64 tb] rfl rfl 54 _ (oR HR.out HS.out) (by kernel_rfl) rfl (by simp [Value.oneCell']) ?_);refine bodyPost_ret (Ch _ _ R rfl (setRow_heap _ _ _ _ _ _ (oR HR.out HS.out))) rfl ⟨?_,below_setRow (bX HB.out HS.out) (by have:=HS.out;omega) _⟩;simp only [S5,Oi,Av,Ln];rfl
 | true =>
  cases wn with
  | nil =>
   change Calls Tryz.prog 33 _ w λe w'=>e=.returned (.agg #[int i64 0,int i64 0,int i64 0,int i64 mk,int i64 kd,int i64 (Gg sd),int i64 (NI dr),int i64 lv,int i64 (Jf kd sz),int i64 0,int i64 fa,int i64 fb,int i64 ta,int i64 tb])∧Below w.heap.size w w'
   go_enter Tryz.func33,Tryz.ntmps33;change Code.wp Tryz.prog (.seq (.region 0 _ _) (.seq _ (.seq _ (.seq _ JO)))) _ _ _;go_wp2_with fail;exact hE.out _ 0 HR.out HX.out HB.out _ _ _ _ _ _ _ _ _ _ _ _ _ _ _ _ _ _ _ _ _ _ _ _ _ _ _ _ _ _ _ _ _ _ _ _ _ _ _ _ _ _ _ _ _ _ _ _ _ _ _ _ _ _ _ _
  | cons c l =>
   change Calls Tryz.prog 33 _ w λe w'=>e=.returned (.agg #[int i64 0,int i64 0,int i64 0,int i64 mk,int i64 kd,int i64 (Gg sd),int i64 (NI dr),int i64 lv,int i64 (Jf kd sz),int i64 (1+n),int i64 fa,int i64 fb,int i64 ta,int i64 tb])∧Below w.heap.size w w'
   go_enter Tryz.func33,Tryz.ntmps33;change Code.wp Tryz.prog (.seq (.region 0 _ _) (.seq _ (.seq _ (.seq _ JO)))) _ _ _;go_wp2_with fail;exact hE.out _ (1+n) (oR HR.out HS.out) (heap_setCell_same W3 X 9 _ _ (int i64 (1+n)) HX.out) (bX HB.out HS.out) _ _ _ _ _ _ _ _ _ _ _ _ _ _ _ _ _ _ _ _ _ _ _ _ _ _ _ _ _ _ _ _ _ _ _ _ _ _ _ _ _ _ _ _ _ _ _ _ _ _ _ _ _ _ _ _
end
end Go.Proofs.YtbkemlgfdklpfaaGreatDoor
