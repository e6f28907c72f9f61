/- Contracts and plain laws on the way to the statement: part 38. -/
import Derived.Test.YtbkemlgfdklpfaaGreatDoorV37
import Derived.Test.YtbkemlgfdklpfaaGreatDoorV34
import Derived.Test.YtbkemlgfdklpfaaGreatDoorRows
import Derived.Lib.LaidTab
import Derived.LaidLaws
import Derived.JoinedAt
import Derived.Carry
import Derived.SizedLaws
import Derived.ProofKit
import Derived.OpenShut
import Derived.WideShapes
import Derived.Handed
import Derived.Test.YtbkemlgfdklpfaaGreatDoorV4
set_option linter.unusedVariables false
set_option linter.unusedSimpArgs false
set_option maxRecDepth 100000
set_option maxHeartbeats 16000000
namespace Go.Proofs.YtbkemlgfdklpfaaGreatDoor
open Go.Value (int)
open Go.IntKind (i64)
section
open Go Go.ChangeShapes Go.WideShapes Go.ChangeAt Go.RowKit
instance:Inhabited Sgn:=⟨⟨0,0,0,0,0,0,0,0,0,0,0,0,0,0⟩⟩
theorem To{cs:List Value}(h:cs.length=11):∃c0 c1 c2 c3 c4 c5 c6 c7 c8 c9 c10,cs=[c0,c1,c2,c3,c4,c5,c6,c7,c8,c9,c10]:=by
 match cs,h with
 | [c0,c1,c2,c3,c4,c5,c6,c7,c8,c9,c10],_=>exact ⟨c0,c1,c2,c3,c4,c5,c6,c7,c8,c9,c10,rfl⟩
theorem Tp{cs:List Value}(h:cs.length=14):∃c0 c1 c2 c3 c4 c5 c6 c7 c8 c9 c10 c11 c12 c13,cs=[c0,c1,c2,c3,c4,c5,c6,c7,c8,c9,c10,c11,c12,c13]:=by
 match cs,h with
 | [c0,c1,c2,c3,c4,c5,c6,c7,c8,c9,c10,c11,c12,c13],_=>exact ⟨c0,c1,c2,c3,c4,c5,c6,c7,c8,c9,c10,c11,c12,c13,rfl⟩
theorem Ue:Tryz.prog.cellsOf 34=3:=by kernel_rfl
theorem Vi:Tryz.prog.cellsOf 23=1:=by kernel_rfl
theorem Vj:Tryz.prog.cellsOf 24=1:=by kernel_rfl
theorem Vk:Tryz.prog.cellsOf 25=1:=by kernel_rfl
theorem Vl:Tryz.prog.cellsOf 26=1:=by kernel_rfl
theorem Uf:Tryz.prog.cellsOf 36=4:=by kernel_rfl
theorem Vm:Tryz.prog.cellsOf 37=1:=by kernel_rfl
theorem Vn:Tryz.prog.cellsOf 39=11:=by kernel_rfl
theorem SQ:Tryz.prog.cellsOf 52=2:=by kernel_rfl
theorem Ug:Tryz.prog.cellsOf 54=14:=by kernel_rfl
section
variable {H:Type} {et:TypeId×Value→H} {W:World}
theorem MP{n:Nat}{cs:List Value}{y:DataW H×List MemPlace}(h:DataW.trod et Tryz.prog W 0 (λ_=>true) true n 52 cs=some y):∃(n:Int) (d:Int),cs=[int i64 n,int i64 d]:=by
 obtain ⟨ys,m,_,_,hl,hA,hf⟩:=DataW.trod_struct Tryz.underlying52 h;rw [SQ] at hl;obtain ⟨c0,c1,rfl⟩:=UH hl;obtain ⟨y0,hB⟩:∃y,ys[0]?=some y:=⟨_,qg (by rw [hA];decide)⟩;have f0:DataW.trod et Tryz.prog W 0 (λ_=>true) true m 3 (([c0,c1].drop 0).take (Tryz.prog.cellsOf 3))=some y0:=(hf 0 _ rfl).trans hB;rw [AD] at f0;obtain ⟨y1,hC⟩:∃y,ys[1]?=some y:=⟨_,qg (by rw [hA];decide)⟩;have f1:DataW.trod et Tryz.prog W 0 (λ_=>true) true m 3 (([c0,c1].drop 1).take (Tryz.prog.cellsOf 3))=some y1:=(hf 1 _ rfl).trans hC;rw [AD] at f1;obtain ⟨n,e0,_,_⟩:=DataW.trod_int Tryz.underlying3 f0;cases e0;obtain ⟨d,e1,_,_⟩:=DataW.trod_int Tryz.underlying3 f1;cases e1;exact ⟨n,d,rfl⟩
theorem Rs{n:Nat}{cs:List Value}{y:DataW H×List MemPlace}(h:DataW.trod et Tryz.prog W 0 (λ_=>true) true n 34 cs=some y):∃(a:Int) (b:Int) (c:Int),cs=[int i64 a,int i64 b,int i64 c]:=by
 obtain ⟨ys,m,_,_,hl,hA,hf⟩:=DataW.trod_struct Tryz.underlying34 h;rw [Ue] at hl;obtain ⟨c0,c1,c2,rfl⟩:=SC hl;obtain ⟨y0,hB⟩:∃y,ys[0]?=some y:=⟨_,qg (by rw [hA];decide)⟩;have f0:DataW.trod et Tryz.prog W 0 (λ_=>true) true m 3 (([c0,c1,c2].drop 0).take (Tryz.prog.cellsOf 3))=some y0:=(hf 0 _ rfl).trans hB;rw [AD] at f0;obtain ⟨y1,hC⟩:∃y,ys[1]?=some y:=⟨_,qg (by rw [hA];decide)⟩;have f1:DataW.trod et Tryz.prog W 0 (λ_=>true) true m 3 (([c0,c1,c2].drop 1).take (Tryz.prog.cellsOf 3))=some y1:=(hf 1 _ rfl).trans hC;rw [AD] at f1;obtain ⟨y2,hD⟩:∃y,ys[2]?=some y:=⟨_,qg (by rw [hA];decide)⟩;have f2:DataW.trod et Tryz.prog W 0 (λ_=>true) true m 3 (([c0,c1,c2].drop 2).take (Tryz.prog.cellsOf 3))=some y2:=(hf 2 _ rfl).trans hD;rw [AD] at f2;obtain ⟨a,e0,_,_⟩:=DataW.trod_int Tryz.underlying3 f0;cases e0;obtain ⟨b,e1,_,_⟩:=DataW.trod_int Tryz.underlying3 f1;cases e1;obtain ⟨c,e2,_,_⟩:=DataW.trod_int Tryz.underlying3 f2;cases e2;exact ⟨a,b,c,rfl⟩
theorem Rv{n:Nat}{cs:List Value}{y:DataW H×List MemPlace}(h:DataW.trod et Tryz.prog W 0 (λ_=>true) true n 54 cs=some y):∃(k0:Int) (k1:Int) (k2:Int) (k3:Int) (k4:Int) (k5:Int) (k6:Int) (k7:Int) (k8:Int) (k9:Int) (fromn:Int) (fromd:Int) (ton:Int) (tod:Int),cs=[int i64 k0,int i64 k1,int i64 k2,int i64 k3,int i64 k4,int i64 k5,int i64 k6,int i64 k7,int i64 k8,int i64 k9,int i64 fromn,int i64 fromd,int i64 ton,int i64 tod]:=by
 obtain ⟨ys,m,_,_,hl,hA,hf⟩:=DataW.trod_struct Tryz.underlying54 h;rw [Ug] at hl;obtain ⟨c0,c1,c2,c3,c4,c5,c6,c7,c8,c9,c10,c11,c12,c13,rfl⟩:=Tp hl;obtain ⟨y0,hD⟩:∃y,ys[0]?=some y:=⟨_,qg (by rw [hA];decide)⟩;have f0:DataW.trod et Tryz.prog W 0 (λ_=>true) true m 3 (([c0,c1,c2,c3,c4,c5,c6,c7,c8,c9,c10,c11,c12,c13].drop 0).take (Tryz.prog.cellsOf 3))=some y0:=(hf 0 _ rfl).trans hD;rw [AD] at f0;obtain ⟨y1,hE⟩:∃y,ys[1]?=some y:=⟨_,qg (by rw [hA];decide)⟩;have f1:DataW.trod et Tryz.prog W 0 (λ_=>true) true m 3 (([c0,c1,c2,c3,c4,c5,c6,c7,c8,c9,c10,c11,c12,c13].drop 1).take (Tryz.prog.cellsOf 3))=some y1:=(hf 1 _ rfl).trans hE;rw [AD] at f1;obtain ⟨y2,hF⟩:∃y,ys[2]?=some y:=⟨_,qg (by rw [hA];decide)⟩;have f2:DataW.trod et Tryz.prog W 0 (λ_=>true) true m 3 (([c0,c1,c2,c3,c4,c5,c6,c7,c8,c9,c10,c11,c12,c13].drop 2).take (Tryz.prog.cellsOf 3))=some y2:=(hf 2 _ rfl).trans hF;rw [AD] at f2;obtain ⟨y3,hG⟩:∃y,ys[3]?=some y:=⟨_,qg (by rw [hA];decide)⟩;have f3:DataW.trod et Tryz.prog W 0 (λ_=>true) true m 3 (([c0,c1,c2,c3,c4,c5,c6,c7,c8,c9,c10,c11,c12,c13].drop 3).take (Tryz.prog.cellsOf 3))=some y3:=(hf 3 _ rfl).trans hG;rw [AD] at f3;obtain ⟨y4,hH⟩:∃y,ys[4]?=some y:=⟨_,qg (by rw [hA];decide)⟩;have f4:DataW.trod et Tryz.prog W 0 (λ_=>true) true m 3 (([c0,c1,c2,c3,c4,c5,c6,c7,c8,c9,c10,c11,c12,c13].drop 4).take (Tryz.prog.cellsOf 3))=some y4:=(hf 4 _ rfl).trans hH;rw [AD] at f4;obtain ⟨y5,hI⟩:∃y,ys[5]?=some y:=⟨_,qg (by rw [hA];decide)⟩;have f5:DataW.trod et Tryz.prog W 0 (λ_=>true) true m 3 (([c0,c1,c2,c3,c4,c5,c6,c7,c8,c9,c10,c11,c12,c13].drop 5).take (Tryz.prog.cellsOf 3))=some y5:=(hf 5 _ rfl).trans hI;rw [AD] at f5;obtain ⟨y6,hJ⟩:∃y,ys[6]?=some y:=⟨_,qg (by rw [hA];decide)⟩;have f6:DataW.trod et Tryz.prog W 0 (λ_=>true) true m 3 (([c0,c1,c2,c3,c4,c5,c6,c7,c8,c9,c10,c11,c12,c13].drop 6).take (Tryz.prog.cellsOf 3))=some y6:=(hf 6 _ rfl).trans hJ;rw [AD] at f6;obtain ⟨y7,hK⟩:∃y,ys[7]?=some y:=⟨_,qg (by rw [hA];decide)⟩;have f7:DataW.trod et Tryz.prog W 0 (λ_=>true) true m 3 (([c0,c1,c2,c3,c4,c5,c6,c7,c8,c9,c10,c11,c12,c13].drop 7).take (Tryz.prog.cellsOf 3))=some y7:=(hf 7 _ rfl).trans hK;rw [AD] at f7;obtain ⟨y8,hL⟩:∃y,ys[8]?=some y:=⟨_,qg (by rw [hA];decide)⟩;have f8:DataW.trod et Tryz.prog W 0 (λ_=>true) true m 3 (([c0,c1,c2,c3,c4,c5,c6,c7,c8,c9,c10,c11,c12,c13].drop 8).take (Tryz.prog.cellsOf 3))=some y8:=(hf 8 _ rfl).trans hL;rw [AD] at f8;obtain ⟨y9,hM⟩:∃y,ys[9]?=some y:=⟨_,qg (by rw [hA];decide)⟩;have f9:DataW.trod et Tryz.prog W 0 (λ_=>true) true m 3 (([c0,c1,c2,c3,c4,c5,c6,c7,c8,c9,c10,c11,c12,c13].drop 9).take (Tryz.prog.cellsOf 3))=some y9:=(hf 9 _ rfl).trans hM;rw [AD] at f9;obtain ⟨y10,hB⟩:∃y,ys[10]?=some y:=⟨_,qg (by rw [hA];decide)⟩;have f10:DataW.trod et Tryz.prog W 0 (λ_=>true) true m 52 (([c0,c1,c2,c3,c4,c5,c6,c7,c8,c9,c10,c11,c12,c13].drop 10).take (Tryz.prog.cellsOf 52))=some y10:=(hf 10 _ rfl).trans hB;rw [SQ] at f10;obtain ⟨y11,hC⟩:∃y,ys[11]?=some y:=⟨_,qg (by rw [hA];decide)⟩;have f11:DataW.trod et Tryz.prog W 0 (λ_=>true) true m 52 (([c0,c1,c2,c3,c4,c5,c6,c7,c8,c9,c10,c11,c12,c13].drop 12).take (Tryz.prog.cellsOf 52))=some y11:=(hf 11 _ rfl).trans hC;rw [SQ] at f11;obtain ⟨k0,e0,_,_⟩:=DataW.trod_int Tryz.underlying3 f0;cases e0;obtain ⟨k1,e1,_,_⟩:=DataW.trod_int Tryz.underlying3 f1;cases e1;obtain ⟨k2,e2,_,_⟩:=DataW.trod_int Tryz.underlying3 f2;cases e2;obtain ⟨k3,e3,_,_⟩:=DataW.trod_int Tryz.underlying3 f3;cases e3
 obtain ⟨k4,e4,_,_⟩:=DataW.trod_int Tryz.underlying3 f4;cases e4;obtain ⟨k5,e5,_,_⟩:=DataW.trod_int Tryz.underlying3 f5;cases e5;obtain ⟨k6,e6,_,_⟩:=DataW.trod_int Tryz.underlying3 f6;cases e6;obtain ⟨k7,e7,_,_⟩:=DataW.trod_int Tryz.underlying3 f7;cases e7;obtain ⟨k8,e8,_,_⟩:=DataW.trod_int Tryz.underlying3 f8;cases e8;obtain ⟨k9,e9,_,_⟩:=DataW.trod_int Tryz.underlying3 f9;cases e9;obtain ⟨fromn,fromd,e10⟩:=MP f10;cases e10;obtain ⟨ton,tod,e11⟩:=MP f11;cases e11;exact ⟨k0,k1,k2,k3,k4,k5,k6,k7,k8,k9,fromn,fromd,ton,tod,rfl⟩
theorem Rt{n:Nat}{cs:List Value}{y:DataW H×List MemPlace}(h:DataW.trod et Tryz.prog W 0 (λ_=>true) true n 36 cs=some y):∃(bars:Int) (t:Value) (tL:List Tmp) (p:Value) (pL:List Pau) (x:Value) (xL:List Con),cs=[int i64 bars,t,p,x]∧IsRow BS 3 W t tL∧IsRow Cx 4 W p pL∧IsRow Cw 4 W x xL:=by
 obtain ⟨ys,m,_,_,hl,hA,hf⟩:=DataW.trod_struct Tryz.underlying36 h;rw [Uf] at hl;obtain ⟨c0,c1,c2,c3,rfl⟩:=ML hl;obtain ⟨y0,hB⟩:∃y,ys[0]?=some y:=⟨_,qg (by rw [hA];decide)⟩;have f0:DataW.trod et Tryz.prog W 0 (λ_=>true) true m 3 (([c0,c1,c2,c3].drop 0).take (Tryz.prog.cellsOf 3))=some y0:=(hf 0 _ rfl).trans hB;rw [AD] at f0;obtain ⟨y1,hC⟩:∃y,ys[1]?=some y:=⟨_,qg (by rw [hA];decide)⟩;have f1:DataW.trod et Tryz.prog W 0 (λ_=>true) true m 24 (([c0,c1,c2,c3].drop 1).take (Tryz.prog.cellsOf 24))=some y1:=(hf 1 _ rfl).trans hC;rw [Vj] at f1;obtain ⟨y2,hD⟩:∃y,ys[2]?=some y:=⟨_,qg (by rw [hA];decide)⟩;have f2:DataW.trod et Tryz.prog W 0 (λ_=>true) true m 25 (([c0,c1,c2,c3].drop 2).take (Tryz.prog.cellsOf 25))=some y2:=(hf 2 _ rfl).trans hD;rw [Vk] at f2;obtain ⟨y3,hE⟩:∃y,ys[3]?=some y:=⟨_,qg (by rw [hA];decide)⟩;have f3:DataW.trod et Tryz.prog W 0 (λ_=>true) true m 26 (([c0,c1,c2,c3].drop 3).take (Tryz.prog.cellsOf 26))=some y3:=(hf 3 _ rfl).trans hE;rw [Vl] at f3;obtain ⟨bars,e0,_,_⟩:=DataW.trod_int Tryz.underlying3 f0;cases e0;obtain ⟨tL,i1⟩:=CW (enc:=BS) Tryz.underlying24 IM (by decide) (λn cs y h=>by obtain ⟨b,t,s,e⟩:=Rp h;exact ⟨⟨b,t,s⟩,e⟩) f1;obtain ⟨pL,i2⟩:=CW (enc:=Cx) Tryz.underlying25 IN (by decide) (λn cs y h=>by obtain ⟨b,k,l,hi,e⟩:=Rq h;exact ⟨⟨b,k,l,hi⟩,e⟩) f2;obtain ⟨xL,i3⟩:=CW (enc:=Cw) Tryz.underlying26 IP (by decide) (λn cs y h=>by obtain ⟨f,t,l,hi,e⟩:=Rr h;exact ⟨⟨f,t,l,hi⟩,e⟩) f3;exact ⟨bars,_,tL,_,pL,_,xL,rfl,i1,i2,i3⟩
theorem Ru{n:Nat}{cs:List Value}{y:DataW H×List MemPlace}(h:DataW.trod et Tryz.prog W 0 (λ_=>true) true n 39 cs=some y):∃(wd:Int) (dp:Int) (tola:Int) (tolb:Int) (tolc:Int) (r:Value) (rL:List Rol) (clockbars:Int) (clockt:Value) (clocktL:List Tmp) (clockp:Value) (clockpL:List Pau) (clockx:Value) (clockxL:List Con) (s:Value) (sL:List Sgn),cs=[int i64 wd,int i64 dp,int i64 tola,int i64 tolb,int i64 tolc,r,int i64 clockbars,clockt,clockp,clockx,s]∧IsRow CT 4 W r rL∧IsRow BS 3 W clockt clocktL∧IsRow Cx 4 W clockp clockpL∧IsRow Cw 4 W clockx clockxL∧IsRow Av 14 W s sL:=by
 obtain ⟨ys,m,_,_,hl,hA,hf⟩:=DataW.trod_struct Tryz.underlying39 h;rw [Vn] at hl;obtain ⟨c0,c1,c2,c3,c4,c5,c6,c7,c8,c9,c10,rfl⟩:=To hl;obtain ⟨y0,hB⟩:∃y,ys[0]?=some y:=⟨_,qg (by rw [hA];decide)⟩;have f0:DataW.trod et Tryz.prog W 0 (λ_=>true) true m 3 (([c0,c1,c2,c3,c4,c5,c6,c7,c8,c9,c10].drop 0).take (Tryz.prog.cellsOf 3))=some y0:=(hf 0 _ rfl).trans hB;rw [AD] at f0;obtain ⟨y1,hC⟩:∃y,ys[1]?=some y:=⟨_,qg (by rw [hA];decide)⟩;have f1:DataW.trod et Tryz.prog W 0 (λ_=>true) true m 3 (([c0,c1,c2,c3,c4,c5,c6,c7,c8,c9,c10].drop 1).take (Tryz.prog.cellsOf 3))=some y1:=(hf 1 _ rfl).trans hC;rw [AD] at f1;obtain ⟨y2,hD⟩:∃y,ys[2]?=some y:=⟨_,qg (by rw [hA];decide)⟩;have f2:DataW.trod et Tryz.prog W 0 (λ_=>true) true m 34 (([c0,c1,c2,c3,c4,c5,c6,c7,c8,c9,c10].drop 2).take (Tryz.prog.cellsOf 34))=some y2:=(hf 2 _ rfl).trans hD;rw [Ue] at f2;obtain ⟨y3,hE⟩:∃y,ys[3]?=some y:=⟨_,qg (by rw [hA];decide)⟩;have f3:DataW.trod et Tryz.prog W 0 (λ_=>true) true m 23 (([c0,c1,c2,c3,c4,c5,c6,c7,c8,c9,c10].drop 5).take (Tryz.prog.cellsOf 23))=some y3:=(hf 3 _ rfl).trans hE;rw [Vi] at f3;obtain ⟨y4,hF⟩:∃y,ys[4]?=some y:=⟨_,qg (by rw [hA];decide)⟩;have f4:DataW.trod et Tryz.prog W 0 (λ_=>true) true m 36 (([c0,c1,c2,c3,c4,c5,c6,c7,c8,c9,c10].drop 6).take (Tryz.prog.cellsOf 36))=some y4:=(hf 4 _ rfl).trans hF;rw [Uf] at f4;obtain ⟨y5,hG⟩:∃y,ys[5]?=some y:=⟨_,qg (by rw [hA];decide)⟩;have f5:DataW.trod et Tryz.prog W 0 (λ_=>true) true m 37 (([c0,c1,c2,c3,c4,c5,c6,c7,c8,c9,c10].drop 10).take (Tryz.prog.cellsOf 37))=some y5:=(hf 5 _ rfl).trans hG;rw [Vm] at f5;obtain ⟨wd,e0,_,_⟩:=DataW.trod_int Tryz.underlying3 f0;cases e0;obtain ⟨dp,e1,_,_⟩:=DataW.trod_int Tryz.underlying3 f1;cases e1;obtain ⟨tola,tolb,tolc,e2⟩:=Rs f2;cases e2;obtain ⟨rL,i3⟩:=CW (enc:=CT) Tryz.underlying23 Kj (by decide) (λn cs y h=>by obtain ⟨name,x,y,f,e⟩:=Tv h;exact ⟨⟨name,x,y,f⟩,e⟩) f3;obtain ⟨clockbars,clockt,clocktL,clockp,clockpL,clockx,clockxL,e4,i4_0,i4_1,i4_2⟩:=Rt f4;cases e4;obtain ⟨sL,i5⟩:=CW (enc:=Av) Tryz.underlying37 Ug (by decide) (λn cs y h=>by obtain ⟨k0,k1,k2,k3,k4,k5,k6,k7,k8,k9,fromn,fromd,ton,tod,e⟩:=Rv h;exact ⟨⟨k0,k1,k2,k3,k4,k5,k6,k7,k8,k9,fromn,fromd,ton,tod⟩,e⟩) f5;exact ⟨wd,dp,tola,tolb,tolc,_,rL,clockbars,_,clocktL,_,clockpL,_,clockxL,_,sL,rfl,i3,i4_0,i4_1,i4_2,i5⟩
end
section
variable {H:Type} {enc:TypeId×Value→H} {W:World}
theorem TX{base:Nat}{v:Value}{d:DataW H}{p:List MemPlace}(hv:Value.okWide Tryz.prog W .any base 39 v)(h:DataW.Trod enc Tryz.prog W 0 (λ_=>true) true 39 v d p) :
  ∃(wd dp ta tb tc bars:Int) (aR aT aP aX aS:Option Addr) (cR cT cP cX cS:Nat) (rs:List Rol) (ts:List Tmp) (ps:List Pau) (xs:List Con) (ss:List Sgn),
   v=.agg #[int i64 wd,int i64 dp,int i64 ta,int i64 tb,int i64 tc,.slice aR rs.length cR,int i64 bars,.slice aT ts.length cT,.slice aP ps.length cP,.slice aX xs.length cX,.slice aS ss.length cS] ∧
   IsRow CT 4 W (.slice aR rs.length cR) rs∧IsRow BS 3 W (.slice aT ts.length cT) ts∧IsRow Cx 4 W (.slice aP ps.length cP) ps∧IsRow Cw 4 W (.slice aX xs.length cX) xs∧IsRow Av 14 W (.slice aS ss.length cS) ss:=by
 obtain ⟨cs,rfl,hF⟩:=okWide_struct Tryz.underlying39 hv;obtain ⟨fuel,hf⟩:=h;obtain ⟨wd,dp,ta,tb,tc,r,rs,bars,t,ts,pp,ps,x,xs,s,ss,e,hR,hT,hP,hX,hS⟩:=Ru hf;have hA:=hR;have hB:=hT;have hC:=hP;have hD:=hX;have hE:=hS;obtain ⟨aR,cR,rfl,-⟩:=hA;obtain ⟨aT,cT,rfl,-⟩:=hB;obtain ⟨aP,cP,rfl,-⟩:=hC;obtain ⟨aX,cX,rfl,-⟩:=hD;obtain ⟨aS,cS,rfl,-⟩:=hE;refine ⟨wd,dp,ta,tb,tc,bars,aR,aT,aP,aX,aS,cR,cT,cP,cX,cS,rs,ts,ps,xs,ss,?_,hR,hT,hP,hX,hS⟩
 congr 1
 exact Array.toList_inj.1 e
theorem Vh{v:Value}{d:DataW H}{p:List MemPlace}(h:DataW.Trod enc Tryz.prog W 0 (λ_=>true) true 39 v d p)(hA:∀x∈p,x.block<W.heap.size){W':World}(hb:Below W.heap.size W W') :
  DataW.Trod enc Tryz.prog W' 0 (λb=>decide (b<W.heap.size)) true 39 v d p :=
 Below.trod Pr (by kernel_rfl) (of_decide_eq_true (by kernel_rfl)) h hb hA
end
def SA : List (String × DataW Unit) := [("kinesphere/expand.kinds", Rows.laid_kinesphere_expand_kinds)]
theorem gKinds : Tryz.prog.globalNamed "kinesphere/expand.kinds" = some 0 := by kernel_rfl
theorem gKindsT:(Tryz.prog.globals[0]?).map (·.type)=some 142:=by kernel_rfl
theorem Sv:Tryz.prog.cellsOf 141=6:=by kernel_rfl
theorem cW4:Tryz.prog.cellsOf 4=1:=by kernel_rfl
def LW(k:Nat):DataW Unit:=.agg [.lit (.bool (Dr k)),.lit (.bool (Fi k)),.lit (.bool (Dt k)),.lit (.int .i64 (Cn k)),.lit (.int .i64 (C5 k)),.lit (.int .i64 (D7 k))]
theorem Nw:(Rows.laid_kinesphere_expand_kinds:DataW Unit)=.agg ((List.range 10).map LW):=rfl
section
variable {et:TypeId×Value→Unit} {W:World}
theorem Mg{n:Nat}{cs:List Value}{y:DataW Unit×List MemPlace}{sp:Nat→Bool}{held:Bool}{k:Nat}(h:DataW.trod et Tryz.prog W 0 sp held n 141 cs=some y)(hd:y.1=LW k):cs=FH k:=by
 obtain ⟨ys,m,_,hy,hl,hG,hf⟩:=DataW.trod_struct Tryz.underlying141 h;rw [Sv] at hl;obtain ⟨c0,c1,c2,c3,c4,c5,rfl⟩:=UI hl;rw [hy] at hd
 have hm:ys.map (·.1)=[.lit (.bool (Dr k)),.lit (.bool (Fi k)),.lit (.bool (Dt k)),.lit (.int .i64 (Cn k)),.lit (.int .i64 (C5 k)),.lit (.int .i64 (D7 k))]:=by
  injection hd
 have at_:∀(j:Nat) (d:DataW Unit),(ys.map (·.1))[j]?=some d→∃q,ys[j]?=some (d,q):=by
  intro j d hj;rw [List.getElem?_map,Option.map_eq_some_iff] at hj;obtain ⟨a,ha,rfl⟩:=hj;exact ⟨a.2,ha⟩
 obtain ⟨q0,hA⟩:=at_ 0 _ (by rw [hm];rfl);obtain ⟨q1,hB⟩:=at_ 1 _ (by rw [hm];rfl);obtain ⟨q2,hC⟩:=at_ 2 _ (by rw [hm];rfl);obtain ⟨q3,hD⟩:=at_ 3 _ (by rw [hm];rfl);obtain ⟨q4,hE⟩:=at_ 4 _ (by rw [hm];rfl);obtain ⟨q5,hF⟩:=at_ 5 _ (by rw [hm];rfl);have f0:DataW.trod et Tryz.prog W 0 sp held m 4 (([c0,c1,c2,c3,c4,c5].drop 0).take (Tryz.prog.cellsOf 4))=_:=(hf 0 _ rfl).trans hA;have f1:DataW.trod et Tryz.prog W 0 sp held m 4 (([c0,c1,c2,c3,c4,c5].drop 1).take (Tryz.prog.cellsOf 4))=_:=(hf 1 _ rfl).trans hB;have f2:DataW.trod et Tryz.prog W 0 sp held m 4 (([c0,c1,c2,c3,c4,c5].drop 2).take (Tryz.prog.cellsOf 4))=_:=(hf 2 _ rfl).trans hC;have f3:DataW.trod et Tryz.prog W 0 sp held m 3 (([c0,c1,c2,c3,c4,c5].drop 3).take (Tryz.prog.cellsOf 3))=_:=(hf 3 _ rfl).trans hD;have f4:DataW.trod et Tryz.prog W 0 sp held m 3 (([c0,c1,c2,c3,c4,c5].drop 4).take (Tryz.prog.cellsOf 3))=_:=(hf 4 _ rfl).trans hE;have f5:DataW.trod et Tryz.prog W 0 sp held m 3 (([c0,c1,c2,c3,c4,c5].drop 5).take (Tryz.prog.cellsOf 3))=_:=(hf 5 _ rfl).trans hF;rw [cW4] at f0 f1 f2;rw [AD] at f3 f4 f5;obtain ⟨b0,e0,g0⟩:=DataW.trod_bool Tryz.underlying4 f0;obtain ⟨b1,e1,g1⟩:=DataW.trod_bool Tryz.underlying4 f1;obtain ⟨b2,e2,g2⟩:=DataW.trod_bool Tryz.underlying4 f2;obtain ⟨b3,e3,g3,_⟩:=DataW.trod_int Tryz.underlying3 f3;obtain ⟨b4,e4,g4,_⟩:=DataW.trod_int Tryz.underlying3 f4;obtain ⟨b5,e5,g5,_⟩:=DataW.trod_int Tryz.underlying3 f5;cases e0;cases e1;cases e2;cases e3;cases e4;cases e5;injection g0 with g0 _;injection g1 with g1 _;injection g2 with g2 _;injection g3 with g3 _;injection g4 with g4 _;injection g5 with g5 _;injection g0 with g0;injection g1 with g1;injection g2 with g2;injection g3 with g3;injection g4 with g4;injection g5 with g5;injection g0 with g0;injection g1 with g1;injection g2 with g2;injection g3 with _ g3;injection g4 with _ g4;injection g5 with _ g5;subst g0 g1 g2 g3 g4 g5
 rfl
theorem SL{n N e:Nat}{t:TypeId}{cs:List Value}{ds:List (DataW Unit)}{p:List MemPlace}{sp:Nat→Bool}{held:Bool}(ht:Tryz.prog.underlying t=some (.array N e))(h:DataW.trod et Tryz.prog W 0 sp held n t cs=some (.agg ds,p)){i:Nat}{d:DataW Unit}(hi:i<N)(hd:ds[i]?=some d) :
  ∃m q,DataW.trod et Tryz.prog W 0 sp held m e ((cs.drop (i*Tryz.prog.cellsOf e)).take (Tryz.prog.cellsOf e))=some (d,q):=by
 obtain ⟨xs,m,_,hx,_,hA,hf⟩:=DataW.trod_array ht h;injection hx with hx _;injection hx with hx;rw [hx,List.getElem?_map,Option.map_eq_some_iff] at hd;obtain ⟨a,ha,rfl⟩:=hd;exact ⟨m,a.2,(hf i hi).trans ha⟩
theorem Sk{cs l:List Value}{o k j:Nat}{v:Value}(h:(cs.drop o).take k=l)(hj:l[j]?=some v):cs[o+j]?=some v:=by
 subst h
 have hk:j<k:=by
  have:=(ql.1 hj).1;simp at this;omega
 rw [List.getElem?_take_of_lt hk,List.getElem?_drop] at hj;exact hj
end
theorem QT{W:World}(h:laidMet Tryz.prog SA W):EnvK W:=by
 obtain ⟨ps,⟨g',t',cs,fuel,p,q,hB,hC,hA,hd,_⟩,_⟩:=h;obtain rfl:=Option.some.inj (gKinds.symm.trans hB);obtain rfl:=Option.some.inj (gKindsT.symm.trans hC);rw [Nw] at hd;refine ⟨?_⟩;intro k hk j v hj;obtain ⟨m,q2,hm⟩:=SL Tryz.underlying142 hd (i:=k) (d:=LW k) hk (by rw [List.getElem?_map,List.getElem?_range hk];rfl);rw [Sv] at hm;have:=Sk (Mg hm rfl) hj;rw [World.var?_cell gKinds hA,← Array.getElem?_toList];exact this
def Of(cs:Array Value):Obj→Obj
 | .cells _ t frozen=>.cells cs t frozen
 | o=>o
noncomputable def Ny(os:Os):World :=
 let w0:=World.holding Tryz.prog os ⟨#[],#[],[]⟩
 { w0 with heap:=w0.heap.modify 0 (Of ((List.range 10).flatMap FH).toArray) }
theorem Qx(os:Os)(args:Array Value):laidMet Tryz.prog SA ((Ny os).forCall (λ_ _=>0) ⟨#[],args,[]⟩).memory :=
 laidMet_of_run' 8 (by kernel_rfl) (by kernel_rfl)
def Vx:Value:=.agg #[int i64 0,int i64 0,int i64 0,int i64 0,int i64 0,.slice none 0 0,int i64 0,.slice none 0 0,.slice none 0 0,.slice none 0 0,.slice none 0 0]
theorem Ij{H:Type}{enc:TypeId×Value→H}{a:Assume}{C:Checked}{os:Os}{f:FuncId}{fn:Func}{s:ChangeSpec}{conds:List PathCond}{apart fresh hA again:Bool}{X:World→Array Value→Prop}
  (hX:∀(w w':World) (args:Array Value),w.heap=w'.heap→X w args→X w' args)
  (own:ownKnob C.prog.godebug=none) (started:os.Started) (noInit:C.prog.inits.idxOf? f=none) (hF:C.prog.funcs[f]?=some fn)
  (witness:∃(w:World) (tape:Tape) (i:Input),w.os=os∧(w.forCall tape i).Shaped C.prog∧i.vars=[]∧Input.okWide C.prog (w.forCall tape i) .any w.heap.size f i ∧
   ((s.pre enc C.prog fn conds apart (w.forCall tape i).memory i.args∧X (w.forCall tape i).memory i.args)∧sizedMet enc C.prog fn (OpenSpec.ofChange s) apart (w.forCall tape i).memory i.args)∧a.holds C.prog (lone (Frame.enter C.prog f i.args .normal) [] (w.forCall tape i)))
  (contract:∀(W:World) (base:Nat) (args:Array Value) (ds gs:List (DataW H)) (before:List MemPlace),
   (∀(j:Nat) t v,fn.params[j]?=some t→args[j]?=some v→Value.okWide C.prog W .any base t v) →
   DataW.Whole enc C.prog fn.params.toList s.vars apart W args.toList ds gs before →
   conds.all (PathCond.test C.prog ⟨fn.params.toList,ds,s.plain.varTypes C.prog,gs⟩)=true →
   (DataW.weightsEach C.prog (fn.params.toList++s.plain.varTypes C.prog) (ds++gs)).all (·≤reachBytes)=true→X W args→W.ShapedOpen C.prog →
   a.holds C.prog (lone (Frame.enter C.prog f args .normal) [] W) →
   Calls C.prog f args W λe W'=>∃v,e=.returned v∧s.post enc C.prog fn apart fresh hA again W args v W') :
  ReturnsInHanded a C os f .any (λw args=>(s.pre enc C.prog fn conds apart w args∧X w args)∧sizedMet enc C.prog fn (OpenSpec.ofChange s) apart w args) (s.post enc C.prog fn apart fresh hA again):=by
 refine returnsInHanded_of_calls own started noInit witness ?_;intro w tape i _ hG _ hH hC hB;obtain ⟨_,_,_,fn',hD,_,_,_,_,hE⟩:=hH;have e:fn'=fn:=Option.some.inj (hD.symm.trans hF);subst e;obtain ⟨⟨⟨ds,gs,before,hw,hc⟩,hx⟩,hz⟩:=hC;have hI:=DataW.Whole.of_heap (w':=w.forCall tape i) (by rfl) hw;refine (contract (w.forCall tape i) w.heap.size i.args ds gs before hE hI hc (hz.weights hw) (hX _ _ _ (by rfl) hx) hG hB).mono λe W' ⟨v,he,hp⟩=>?_
 subst he;exact ChangeSpec.post_blind hp
end
end Go.Proofs.YtbkemlgfdklpfaaGreatDoor
