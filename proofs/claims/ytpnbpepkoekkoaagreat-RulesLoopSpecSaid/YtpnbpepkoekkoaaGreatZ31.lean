/- Contracts and plain laws on the way to the statement: part 31. -/
import Derived.Test.YtpnbpepkoekkoaaGreatZ27
import Derived.OpenShut
import Derived.ShutString
import Derived.HandedShaped
import Derived.Test.YtpnbpepkoekkoaaGreatZ3
set_option linter.unusedVariables false
set_option linter.unusedSimpArgs false
set_option maxRecDepth 100000
set_option maxHeartbeats 16000000
namespace Go.Proofs.YtpnbpepkoekkoaaGreat
open Go.Value (int)
open Go.IntKind (i64)
section
open Go Go.ChangeShapes Go.WideShapes Go.ChangeAt Go.RowKit Go.Deep
theorem Pu{cs:List Value}(h:cs.length=2):∃c0 c1,cs=[c0,c1]:=by
 match cs,h with
 | [c0,c1],_=>exact ⟨c0,c1,rfl⟩
theorem UA{cs:List Value}(h:cs.length=3):∃c0 c1 c2,cs=[c0,c1,c2]:=by
 match cs,h with
 | [c0,c1,c2],_=>exact ⟨c0,c1,c2,rfl⟩
theorem Pv{cs:List Value}(h:cs.length=4):∃c0 c1 c2 c3,cs=[c0,c1,c2,c3]:=by
 match cs,h with
 | [c0,c1,c2,c3],_=>exact ⟨c0,c1,c2,c3,rfl⟩
theorem Sw{cs:List Value}(h:cs.length=6):∃c0 c1 c2 c3 c4 c5,cs=[c0,c1,c2,c3,c4,c5]:=by
 match cs,h with
 | [c0,c1,c2,c3,c4,c5],_=>exact ⟨c0,c1,c2,c3,c4,c5,rfl⟩
theorem Pt{cs:List Value}(h:cs.length=12):∃c0 c1 c2 c3 c4 c5 c6 c7 c8 c9 c10 c11,cs=[c0,c1,c2,c3,c4,c5,c6,c7,c8,c9,c10,c11]:=by
 match cs,h with
 | [c0,c1,c2,c3,c4,c5,c6,c7,c8,c9,c10,c11],_=>exact ⟨c0,c1,c2,c3,c4,c5,c6,c7,c8,c9,c10,c11,rfl⟩
section
variable {H:Type} {et:TypeId×Value→H} {W:World}
theorem AV:Tryz.prog.cellsOf 3=1:=by kernel_rfl
theorem QW:Tryz.prog.cellsOf 4=1:=by kernel_rfl
theorem Gz:Tryz.prog.cellsOf 9=1:=by kernel_rfl
theorem Oq:Tryz.prog.cellsOf 22=2:=by kernel_rfl
theorem Ot:Tryz.prog.cellsOf 23=1:=by kernel_rfl
theorem Ou:Tryz.prog.cellsOf 24=1:=by kernel_rfl
theorem Ov:Tryz.prog.cellsOf 25=1:=by kernel_rfl
theorem Ow:Tryz.prog.cellsOf 26=1:=by kernel_rfl
theorem Ox:Tryz.prog.cellsOf 27=1:=by kernel_rfl
theorem Oy:Tryz.prog.cellsOf 28=1:=by kernel_rfl
theorem Oz:Tryz.prog.cellsOf 30=12:=by kernel_rfl
theorem Ep:Tryz.prog.cellsOf 44=2:=by kernel_rfl
theorem Kl:Tryz.prog.cellsOf 45=1:=by kernel_rfl
theorem Km:Tryz.prog.cellsOf 51=2:=by kernel_rfl
theorem Kn:Tryz.prog.cellsOf 60=4:=by kernel_rfl
theorem Ko:Tryz.prog.cellsOf 53=6:=by kernel_rfl
theorem OA:Tryz.prog.cellsOf 46=1:=by kernel_rfl
theorem Kp:Tryz.prog.cellsOf 48=6:=by kernel_rfl
theorem GK:Tryz.prog.cellsOf 75=2:=by kernel_rfl
theorem Kq:Tryz.prog.cellsOf 77=12:=by kernel_rfl
theorem IW:Tryz.prog.cellsOf 80=3:=by kernel_rfl
theorem IX:Tryz.prog.cellsOf 124=4:=by kernel_rfl
theorem IY:Tryz.prog.cellsOf 126=4:=by kernel_rfl
theorem JS{n:Nat}{cs:List Value}{y:DataW H×List MemPlace}(h:DataW.trod et Tryz.prog W 0 (λ_=>true) true n 44 cs=some y):∃(nm:Nm) (n:Int),cs=[sv nm,int i64 n]:=by
 obtain ⟨ys,m,_,_,hl,hA,hf⟩:=DataW.trod_struct Tryz.underlying44 h;rw [Ep] at hl;obtain ⟨c0,c1,rfl⟩:=Pu hl;obtain ⟨y0,hB⟩:∃y,ys[0]?=some y:=⟨_,qg (by rw [hA];decide)⟩;have f0:DataW.trod et Tryz.prog W 0 (λ_=>true) true m 9 (([c0,c1].drop 0).take (Tryz.prog.cellsOf 9))=some y0:=(hf 0 _ rfl).trans hB;rw [Gz] at f0;obtain ⟨y1,hC⟩:∃y,ys[1]?=some y:=⟨_,qg (by rw [hA];decide)⟩;have f1:DataW.trod et Tryz.prog W 0 (λ_=>true) true m 3 (([c0,c1].drop 1).take (Tryz.prog.cellsOf 3))=some y1:=(hf 1 _ rfl).trans hC;rw [AV] at f1;obtain ⟨s0,e0,_,_⟩:=DataW.trod_string Tryz.underlying9 f0;cases e0;obtain ⟨n,e1,_,_⟩:=DataW.trod_int Tryz.underlying3 f1;cases e1;exact ⟨s0.data.toList,n,rfl⟩
theorem PN{n:Nat}{cs:List Value}{y:DataW H×List MemPlace}(h:DataW.trod et Tryz.prog W 0 (λ_=>true) true n 75 cs=some y):∃(a:Int) (b:Int),cs=[int i64 a,int i64 b]:=by
 obtain ⟨ys,m,_,_,hl,hA,hf⟩:=DataW.trod_struct Tryz.underlying75 h;rw [GK] at hl;obtain ⟨c0,c1,rfl⟩:=Pu hl;obtain ⟨y0,hB⟩:∃y,ys[0]?=some y:=⟨_,qg (by rw [hA];decide)⟩;have f0:DataW.trod et Tryz.prog W 0 (λ_=>true) true m 3 (([c0,c1].drop 0).take (Tryz.prog.cellsOf 3))=some y0:=(hf 0 _ rfl).trans hB;rw [AV] at f0;obtain ⟨y1,hC⟩:∃y,ys[1]?=some y:=⟨_,qg (by rw [hA];decide)⟩;have f1:DataW.trod et Tryz.prog W 0 (λ_=>true) true m 3 (([c0,c1].drop 1).take (Tryz.prog.cellsOf 3))=some y1:=(hf 1 _ rfl).trans hC;rw [AV] at f1;obtain ⟨a,e0,_,_⟩:=DataW.trod_int Tryz.underlying3 f0;cases e0;obtain ⟨b,e1,_,_⟩:=DataW.trod_int Tryz.underlying3 f1;cases e1;exact ⟨a,b,rfl⟩
theorem Tp{n:Nat}{cs:List Value}{y:DataW H×List MemPlace}(h:DataW.trod et Tryz.prog W 0 (λ_=>true) true n 60 cs=some y):∃(nm:Nm) (x:Int) (y:Int) (f:Int),cs=[sv nm,int i64 x,int i64 y,int i64 f]:=by
 obtain ⟨ys,m,_,_,hl,hA,hf⟩:=DataW.trod_struct Tryz.underlying60 h;rw [Kn] at hl;obtain ⟨c0,c1,c2,c3,rfl⟩:=Pv hl;obtain ⟨y0,hB⟩:∃y,ys[0]?=some y:=⟨_,qg (by rw [hA];decide)⟩;have f0:DataW.trod et Tryz.prog W 0 (λ_=>true) true m 9 (([c0,c1,c2,c3].drop 0).take (Tryz.prog.cellsOf 9))=some y0:=(hf 0 _ rfl).trans hB;rw [Gz] at f0;obtain ⟨y1,hC⟩:∃y,ys[1]?=some y:=⟨_,qg (by rw [hA];decide)⟩;have f1:DataW.trod et Tryz.prog W 0 (λ_=>true) true m 3 (([c0,c1,c2,c3].drop 1).take (Tryz.prog.cellsOf 3))=some y1:=(hf 1 _ rfl).trans hC;rw [AV] at f1;obtain ⟨y2,hD⟩:∃y,ys[2]?=some y:=⟨_,qg (by rw [hA];decide)⟩;have f2:DataW.trod et Tryz.prog W 0 (λ_=>true) true m 3 (([c0,c1,c2,c3].drop 2).take (Tryz.prog.cellsOf 3))=some y2:=(hf 2 _ rfl).trans hD;rw [AV] at f2;obtain ⟨y3,hE⟩:∃y,ys[3]?=some y:=⟨_,qg (by rw [hA];decide)⟩;have f3:DataW.trod et Tryz.prog W 0 (λ_=>true) true m 3 (([c0,c1,c2,c3].drop 3).take (Tryz.prog.cellsOf 3))=some y3:=(hf 3 _ rfl).trans hE;rw [AV] at f3;obtain ⟨s0,e0,_,_⟩:=DataW.trod_string Tryz.underlying9 f0;cases e0;obtain ⟨x,e1,_,_⟩:=DataW.trod_int Tryz.underlying3 f1;cases e1;obtain ⟨y,e2,_,_⟩:=DataW.trod_int Tryz.underlying3 f2;cases e2;obtain ⟨f,e3,_,_⟩:=DataW.trod_int Tryz.underlying3 f3;cases e3;exact ⟨s0.data.toList,x,y,f,rfl⟩
theorem Ru{n:Nat}{cs:List Value}{y:DataW H×List MemPlace}(h:DataW.trod et Tryz.prog W 0 (λ_=>true) true n 80 cs=some y):∃(b:Int) (t:Int) (s:Int),cs=[int i64 b,int i64 t,int i64 s]:=by
 obtain ⟨ys,m,_,_,hl,hA,hf⟩:=DataW.trod_struct Tryz.underlying80 h;rw [IW] at hl;obtain ⟨c0,c1,c2,rfl⟩:=UA hl;obtain ⟨y0,hB⟩:∃y,ys[0]?=some y:=⟨_,qg (by rw [hA];decide)⟩;have f0:DataW.trod et Tryz.prog W 0 (λ_=>true) true m 3 (([c0,c1,c2].drop 0).take (Tryz.prog.cellsOf 3))=some y0:=(hf 0 _ rfl).trans hB;rw [AV] at f0;obtain ⟨y1,hC⟩:∃y,ys[1]?=some y:=⟨_,qg (by rw [hA];decide)⟩;have f1:DataW.trod et Tryz.prog W 0 (λ_=>true) true m 3 (([c0,c1,c2].drop 1).take (Tryz.prog.cellsOf 3))=some y1:=(hf 1 _ rfl).trans hC;rw [AV] at f1;obtain ⟨y2,hD⟩:∃y,ys[2]?=some y:=⟨_,qg (by rw [hA];decide)⟩;have f2:DataW.trod et Tryz.prog W 0 (λ_=>true) true m 3 (([c0,c1,c2].drop 2).take (Tryz.prog.cellsOf 3))=some y2:=(hf 2 _ rfl).trans hD;rw [AV] at f2;obtain ⟨b,e0,_,_⟩:=DataW.trod_int Tryz.underlying3 f0;cases e0;obtain ⟨t,e1,_,_⟩:=DataW.trod_int Tryz.underlying3 f1;cases e1;obtain ⟨s,e2,_,_⟩:=DataW.trod_int Tryz.underlying3 f2;cases e2;exact ⟨b,t,s,rfl⟩
theorem Rv{n:Nat}{cs:List Value}{y:DataW H×List MemPlace}(h:DataW.trod et Tryz.prog W 0 (λ_=>true) true n 124 cs=some y):∃(b:Int) (k:Int) (l:Int) (hh:Int),cs=[int i64 b,int i64 k,int i64 l,int i64 hh]:=by
 obtain ⟨ys,m,_,_,hl,hA,hf⟩:=DataW.trod_struct Tryz.underlying124 h;rw [IX] at hl;obtain ⟨c0,c1,c2,c3,rfl⟩:=Pv hl;obtain ⟨y0,hB⟩:∃y,ys[0]?=some y:=⟨_,qg (by rw [hA];decide)⟩;have f0:DataW.trod et Tryz.prog W 0 (λ_=>true) true m 3 (([c0,c1,c2,c3].drop 0).take (Tryz.prog.cellsOf 3))=some y0:=(hf 0 _ rfl).trans hB;rw [AV] at f0;obtain ⟨y1,hC⟩:∃y,ys[1]?=some y:=⟨_,qg (by rw [hA];decide)⟩;have f1:DataW.trod et Tryz.prog W 0 (λ_=>true) true m 3 (([c0,c1,c2,c3].drop 1).take (Tryz.prog.cellsOf 3))=some y1:=(hf 1 _ rfl).trans hC;rw [AV] at f1;obtain ⟨y2,hD⟩:∃y,ys[2]?=some y:=⟨_,qg (by rw [hA];decide)⟩;have f2:DataW.trod et Tryz.prog W 0 (λ_=>true) true m 3 (([c0,c1,c2,c3].drop 2).take (Tryz.prog.cellsOf 3))=some y2:=(hf 2 _ rfl).trans hD;rw [AV] at f2;obtain ⟨y3,hE⟩:∃y,ys[3]?=some y:=⟨_,qg (by rw [hA];decide)⟩;have f3:DataW.trod et Tryz.prog W 0 (λ_=>true) true m 3 (([c0,c1,c2,c3].drop 3).take (Tryz.prog.cellsOf 3))=some y3:=(hf 3 _ rfl).trans hE;rw [AV] at f3;obtain ⟨b,e0,_,_⟩:=DataW.trod_int Tryz.underlying3 f0;cases e0;obtain ⟨k,e1,_,_⟩:=DataW.trod_int Tryz.underlying3 f1;cases e1;obtain ⟨l,e2,_,_⟩:=DataW.trod_int Tryz.underlying3 f2;cases e2;obtain ⟨hh,e3,_,_⟩:=DataW.trod_int Tryz.underlying3 f3;cases e3;exact ⟨b,k,l,hh,rfl⟩
theorem Rw{n:Nat}{cs:List Value}{y:DataW H×List MemPlace}(h:DataW.trod et Tryz.prog W 0 (λ_=>true) true n 126 cs=some y):∃(f:Int) (t:Int) (l:Int) (hh:Int),cs=[int i64 f,int i64 t,int i64 l,int i64 hh]:=by
 obtain ⟨ys,m,_,_,hl,hA,hf⟩:=DataW.trod_struct Tryz.underlying126 h;rw [IY] at hl;obtain ⟨c0,c1,c2,c3,rfl⟩:=Pv hl;obtain ⟨y0,hB⟩:∃y,ys[0]?=some y:=⟨_,qg (by rw [hA];decide)⟩;have f0:DataW.trod et Tryz.prog W 0 (λ_=>true) true m 3 (([c0,c1,c2,c3].drop 0).take (Tryz.prog.cellsOf 3))=some y0:=(hf 0 _ rfl).trans hB;rw [AV] at f0;obtain ⟨y1,hC⟩:∃y,ys[1]?=some y:=⟨_,qg (by rw [hA];decide)⟩;have f1:DataW.trod et Tryz.prog W 0 (λ_=>true) true m 3 (([c0,c1,c2,c3].drop 1).take (Tryz.prog.cellsOf 3))=some y1:=(hf 1 _ rfl).trans hC;rw [AV] at f1;obtain ⟨y2,hD⟩:∃y,ys[2]?=some y:=⟨_,qg (by rw [hA];decide)⟩;have f2:DataW.trod et Tryz.prog W 0 (λ_=>true) true m 3 (([c0,c1,c2,c3].drop 2).take (Tryz.prog.cellsOf 3))=some y2:=(hf 2 _ rfl).trans hD;rw [AV] at f2;obtain ⟨y3,hE⟩:∃y,ys[3]?=some y:=⟨_,qg (by rw [hA];decide)⟩;have f3:DataW.trod et Tryz.prog W 0 (λ_=>true) true m 3 (([c0,c1,c2,c3].drop 3).take (Tryz.prog.cellsOf 3))=some y3:=(hf 3 _ rfl).trans hE;rw [AV] at f3;obtain ⟨f,e0,_,_⟩:=DataW.trod_int Tryz.underlying3 f0;cases e0;obtain ⟨t,e1,_,_⟩:=DataW.trod_int Tryz.underlying3 f1;cases e1;obtain ⟨l,e2,_,_⟩:=DataW.trod_int Tryz.underlying3 f2;cases e2;obtain ⟨hh,e3,_,_⟩:=DataW.trod_int Tryz.underlying3 f3;cases e3;exact ⟨f,t,l,hh,rfl⟩
theorem Tq{n:Nat}{cs:List Value}{y:DataW H×List MemPlace}(h:DataW.trod et Tryz.prog W 0 (λ_=>true) true n 53 cs=some y):∃(rnm:Nm) (rn:Int) (pnm:Nm) (pn:Int) (b:Int) (m:Bool),cs=[sv rnm,int i64 rn,sv pnm,int i64 pn,int i64 b,.bool m]:=by
 obtain ⟨ys,m,_,_,hl,hA,hf⟩:=DataW.trod_struct Tryz.underlying53 h;rw [Ko] at hl;obtain ⟨c0,c1,c2,c3,c4,c5,rfl⟩:=Sw hl;obtain ⟨y0,hB⟩:∃y,ys[0]?=some y:=⟨_,qg (by rw [hA];decide)⟩;have f0:DataW.trod et Tryz.prog W 0 (λ_=>true) true m 44 (([c0,c1,c2,c3,c4,c5].drop 0).take (Tryz.prog.cellsOf 44))=some y0:=(hf 0 _ rfl).trans hB;rw [Ep] at f0;obtain ⟨y1,hC⟩:∃y,ys[1]?=some y:=⟨_,qg (by rw [hA];decide)⟩;have f1:DataW.trod et Tryz.prog W 0 (λ_=>true) true m 44 (([c0,c1,c2,c3,c4,c5].drop 2).take (Tryz.prog.cellsOf 44))=some y1:=(hf 1 _ rfl).trans hC;rw [Ep] at f1;obtain ⟨y2,hD⟩:∃y,ys[2]?=some y:=⟨_,qg (by rw [hA];decide)⟩;have f2:DataW.trod et Tryz.prog W 0 (λ_=>true) true m 3 (([c0,c1,c2,c3,c4,c5].drop 4).take (Tryz.prog.cellsOf 3))=some y2:=(hf 2 _ rfl).trans hD;rw [AV] at f2;obtain ⟨y3,hE⟩:∃y,ys[3]?=some y:=⟨_,qg (by rw [hA];decide)⟩;have f3:DataW.trod et Tryz.prog W 0 (λ_=>true) true m 4 (([c0,c1,c2,c3,c4,c5].drop 5).take (Tryz.prog.cellsOf 4))=some y3:=(hf 3 _ rfl).trans hE;rw [QW] at f3;obtain ⟨rnm,rn,e0⟩:=JS f0;cases e0;obtain ⟨pnm,pn,e1⟩:=JS f1;cases e1;obtain ⟨b,e2,_,_⟩:=DataW.trod_int Tryz.underlying3 f2;cases e2;obtain ⟨m,e3,_⟩:=DataW.trod_bool Tryz.underlying4 f3;cases e3;exact ⟨rnm,rn,pnm,pn,b,m,rfl⟩
theorem Ts{n:Nat}{cs:List Value}{y:DataW H×List MemPlace}(h:DataW.trod et Tryz.prog W 0 (λ_=>true) true n 77 cs=some y):∃(mk:Int) (kd:Int) (sd:Int) (dr:Int) (lv:Int) (sz:Int) (wnm:Nm) (wn:Int) (fa:Int) (fb:Int) (ta:Int) (tb:Int),cs=[int i64 mk,int i64 kd,int i64 sd,int i64 dr,int i64 lv,int i64 sz,sv wnm,int i64 wn,int i64 fa,int i64 fb,int i64 ta,int i64 tb]:=by
 obtain ⟨ys,m,_,_,hl,hA,hf⟩:=DataW.trod_struct Tryz.underlying77 h;rw [Kq] at hl;obtain ⟨c0,c1,c2,c3,c4,c5,c6,c7,c8,c9,c10,c11,rfl⟩:=Pt hl;obtain ⟨y0,hB⟩:∃y,ys[0]?=some y:=⟨_,qg (by rw [hA];decide)⟩;have f0:DataW.trod et Tryz.prog W 0 (λ_=>true) true m 3 (([c0,c1,c2,c3,c4,c5,c6,c7,c8,c9,c10,c11].drop 0).take (Tryz.prog.cellsOf 3))=some y0:=(hf 0 _ rfl).trans hB;rw [AV] at f0;obtain ⟨y1,hC⟩:∃y,ys[1]?=some y:=⟨_,qg (by rw [hA];decide)⟩;have f1:DataW.trod et Tryz.prog W 0 (λ_=>true) true m 3 (([c0,c1,c2,c3,c4,c5,c6,c7,c8,c9,c10,c11].drop 1).take (Tryz.prog.cellsOf 3))=some y1:=(hf 1 _ rfl).trans hC;rw [AV] at f1;obtain ⟨y2,hD⟩:∃y,ys[2]?=some y:=⟨_,qg (by rw [hA];decide)⟩;have f2:DataW.trod et Tryz.prog W 0 (λ_=>true) true m 3 (([c0,c1,c2,c3,c4,c5,c6,c7,c8,c9,c10,c11].drop 2).take (Tryz.prog.cellsOf 3))=some y2:=(hf 2 _ rfl).trans hD;rw [AV] at f2;obtain ⟨y3,hE⟩:∃y,ys[3]?=some y:=⟨_,qg (by rw [hA];decide)⟩;have f3:DataW.trod et Tryz.prog W 0 (λ_=>true) true m 3 (([c0,c1,c2,c3,c4,c5,c6,c7,c8,c9,c10,c11].drop 3).take (Tryz.prog.cellsOf 3))=some y3:=(hf 3 _ rfl).trans hE;rw [AV] at f3;obtain ⟨y4,hF⟩:∃y,ys[4]?=some y:=⟨_,qg (by rw [hA];decide)⟩;have f4:DataW.trod et Tryz.prog W 0 (λ_=>true) true m 3 (([c0,c1,c2,c3,c4,c5,c6,c7,c8,c9,c10,c11].drop 4).take (Tryz.prog.cellsOf 3))=some y4:=(hf 4 _ rfl).trans hF;rw [AV] at f4;obtain ⟨y5,hG⟩:∃y,ys[5]?=some y:=⟨_,qg (by rw [hA];decide)⟩;have f5:DataW.trod et Tryz.prog W 0 (λ_=>true) true m 3 (([c0,c1,c2,c3,c4,c5,c6,c7,c8,c9,c10,c11].drop 5).take (Tryz.prog.cellsOf 3))=some y5:=(hf 5 _ rfl).trans hG;rw [AV] at f5;obtain ⟨y6,hH⟩:∃y,ys[6]?=some y:=⟨_,qg (by rw [hA];decide)⟩;have f6:DataW.trod et Tryz.prog W 0 (λ_=>true) true m 44 (([c0,c1,c2,c3,c4,c5,c6,c7,c8,c9,c10,c11].drop 6).take (Tryz.prog.cellsOf 44))=some y6:=(hf 6 _ rfl).trans hH;rw [Ep] at f6;obtain ⟨y7,hI⟩:∃y,ys[7]?=some y:=⟨_,qg (by rw [hA];decide)⟩;have f7:DataW.trod et Tryz.prog W 0 (λ_=>true) true m 75 (([c0,c1,c2,c3,c4,c5,c6,c7,c8,c9,c10,c11].drop 8).take (Tryz.prog.cellsOf 75))=some y7:=(hf 7 _ rfl).trans hI;rw [GK] at f7;obtain ⟨y8,hJ⟩:∃y,ys[8]?=some y:=⟨_,qg (by rw [hA];decide)⟩;have f8:DataW.trod et Tryz.prog W 0 (λ_=>true) true m 75 (([c0,c1,c2,c3,c4,c5,c6,c7,c8,c9,c10,c11].drop 10).take (Tryz.prog.cellsOf 75))=some y8:=(hf 8 _ rfl).trans hJ;rw [GK] at f8;obtain ⟨mk,e0,_,_⟩:=DataW.trod_int Tryz.underlying3 f0;cases e0;obtain ⟨kd,e1,_,_⟩:=DataW.trod_int Tryz.underlying3 f1;cases e1;obtain ⟨sd,e2,_,_⟩:=DataW.trod_int Tryz.underlying3 f2;cases e2;obtain ⟨dr,e3,_,_⟩:=DataW.trod_int Tryz.underlying3 f3;cases e3;obtain ⟨lv,e4,_,_⟩:=DataW.trod_int Tryz.underlying3 f4;cases e4;obtain ⟨sz,e5,_,_⟩:=DataW.trod_int Tryz.underlying3 f5;cases e5;obtain ⟨wnm,wn,e6⟩:=JS f6;cases e6;obtain ⟨fa,fb,e7⟩:=PN f7;cases e7;obtain ⟨ta,tb,e8⟩:=PN f8;cases e8;exact ⟨mk,kd,sd,dr,lv,sz,wnm,wn,fa,fb,ta,tb,rfl⟩
def Wt(t:TypeId)(d:DataW H):Prop:=∀n∈d.weights Tryz.prog t,n≤reachBytes
theorem Ex{e:TypeId}:∀{l:List (DataW H)} {d:DataW H},d∈l→∀n∈d.weights Tryz.prog e,n∈DataW.weightsAll Tryz.prog e l
 | x::r,d,h,n,hn=>by
  simp only [DataW.weightsAll,List.mem_append];rcases List.mem_cons.1 h with rfl|h
  ·exact Or.inl hn
  ·exact Or.inr (Ex h n hn)
theorem Wt.slice{t e:TypeId}(ht:Tryz.prog.underlying t=some (.slice e)){elems spare:List (DataW H)}(h:Wt t (.slice elems spare)):(elems.length+spare.length)*Tryz.prog.bytesOf e≤reachBytes∧∀d∈elems,Wt e d:=by
 unfold Wt at h;simp only [DataW.weights,ht,List.mem_cons,List.mem_append] at h;exact ⟨h _ (Or.inl rfl),λd hd n hn=>h n (Or.inr (Or.inl (Ex hd n hn)))⟩
theorem Wt.field{t:TypeId}{fs:Array Field}(ht:Tryz.prog.underlying t=some (.struct fs)){parts:List (DataW H)}(h:Wt t (.agg parts)){j:Nat}{f:Field}{d:DataW H}(hf:fs[j]?=some f)(hd:parts[j]?=some d):Wt f.type d:=λn hn=>by
 refine h n ?_;simp only [DataW.weights,ht];exact DataW.weights_mem_each (j:=j) (by rw [List.getElem?_map,Array.getElem?_toList,hf];rfl) hd n hn
theorem QA{t e:TypeId}(ht:Tryz.prog.underlying t=some (.slice e)){n l cap:Nat}{ao:Option Addr}{y:DataW H×List MemPlace}(h:DataW.trod et Tryz.prog W 0 (λ_=>true) true n t [.slice ao l cap]=some y)(hw:Wt t y.1):l*Tryz.prog.bytesOf e≤reachBytes:=by
 rcases DataW.trod_slice ht h with ⟨e1,_⟩|⟨a,len,cap',elems,rest,m,rfl,e1,rfl,_,_,_,hl,_⟩
 ·have e2:l=0:=by
   simp only [List.cons.injEq,Value.slice.injEq,and_true] at e1;exact e1.2.1
  rw [e2,Nat.zero_mul];exact Nat.zero_le _
 ·have e2:l=len:=by
   simp only [List.cons.injEq,Value.slice.injEq,and_true] at e1;exact e1.2.1
  have h1:=(hw.slice ht).1;rw [List.length_map,List.length_map,hl,Nat.add_mul] at h1;rw [e2];exact Nat.le_trans (Nat.le_add_right _ _) h1
def SX(x:Mov×Int):List Value:=[int i64 x.1.mark,int i64 x.1.kind,int i64 x.1.side,int i64 x.1.dir,int i64 x.1.level,int i64 x.1.size,sv x.1.wn,int i64 x.2,int i64 x.1.fa,int i64 x.1.fb,int i64 x.1.ta,int i64 x.1.tb]
def SW(x:Dan×Int×Int):List Value:=[sv x.1.rn,int i64 x.2.1,sv x.1.pn,int i64 x.2.2,int i64 x.1.bar,.bool x.1.mirror]
theorem EX{b:Nat}:∀{xs:List (Mov×Int)} {o:Nat},AtRow SX 12 W b o xs→B8 W b o (xs.map (·.1))∧NsAt W (Aq b o (xs.map (·.1))) (xs.map (·.2))
 | [],_,_=>⟨trivial,trivial⟩
 | x::r,o,h=>by
  have h0:∀j v,(SX x)[j]?=some v→W.cell? ⟨b,o+j,none⟩=some v:=λj v hv=>by
   have:=h 0 x rfl j v hv;simpa using this
  obtain ⟨r1,r2⟩:=EX (xs:=r) (o:=o+12) (λi y hi j v hv=>by
   have:=h (i+1) y (by simpa using hi) j v hv
   rw [show o+(i+1)*12+j=o+12+i*12+j by omega] at this;exact this)
  exact ⟨⟨⟨h0 0 _ rfl,h0 1 _ rfl,h0 2 _ rfl,h0 3 _ rfl,h0 4 _ rfl,h0 5 _ rfl,h0 6 _ rfl,h0 8 _ rfl,h0 9 _ rfl,h0 10 _ rfl,h0 11 _ rfl⟩,r1⟩,⟨h0 7 _ rfl,r2⟩⟩
theorem ES{b:Nat}:∀{xs:List (Dan×Int×Int)} {o:Nat},AtRow SW 6 W b o xs→Bh W b o (xs.map (·.1))∧NsAt W (Al b o (xs.map (·.1))) (xs.flatMap λx=>[x.2.1,x.2.2])
 | [],_,_=>⟨trivial,trivial⟩
 | x::r,o,h=>by
  have h0:∀j v,(SW x)[j]?=some v→W.cell? ⟨b,o+j,none⟩=some v:=λj v hv=>by
   have:=h 0 x rfl j v hv;simpa using this
  obtain ⟨r1,r2⟩:=ES (xs:=r) (o:=o+6) (λi y hi j v hv=>by
   have:=h (i+1) y (by simpa using hi) j v hv
   rw [show o+(i+1)*6+j=o+6+i*6+j by omega] at this;exact this)
  exact ⟨⟨⟨h0 0 _ rfl,h0 2 _ rfl,h0 4 _ rfl,h0 5 _ rfl⟩,r1⟩,⟨h0 1 _ rfl,h0 3 _ rfl,r2⟩⟩
theorem Ec{α:Type}{enc:α→List Value}{k:Nat}{c:Value}{xs:List α}(h:IsRow enc k W c xs):∃ao cap,c=.slice ao xs.length cap∧xs.length≤maxLen∧(xs=[]∨ao=some ⟨blk ao,off ao,none⟩)∧(xs=[]∨AtRow enc k W (blk ao) (off ao) xs):=by
 obtain ⟨ao,cap,e,hl,h⟩:=h;refine ⟨ao,cap,e,hl,?_,?_⟩
 ·rcases h with h|⟨b,o,rfl,_,_⟩
  ·exact Or.inl h
  ·exact Or.inr rfl
 ·rcases h with h|⟨b,o,rfl,h,_⟩
  ·exact Or.inl h
  ·exact Or.inr h
instance:Inhabited (Mov×Int):=⟨(default,0)⟩
instance:Inhabited (Dan×Int×Int):=⟨(default,0,0)⟩
theorem QV:Tryz.prog.bytesOf 77=104:=by kernel_rfl
theorem Tr{n:Nat}{c:Value}{y:DataW H×List MemPlace}(h:DataW.trod et Tryz.prog W 0 (λ_=>true) true n 46 [c]=some y)(hw:Wt 46 y.1) :
  ∃(ms:List Mov) (ma:Option Addr) (mc:Nat) (ns:List Int),c=.slice ma ms.length mc∧(ms=[]∨ma=some ⟨blk ma,off ma,none⟩)∧ms.length≤maxLen∧B8 W (blk ma) (off ma) ms∧NsAt W (Aq (blk ma) (off ma) ms) ns∧ms.length≤1000000000000000:=by
 obtain ⟨xs,hx⟩:=CB (enc:=SX) Tryz.underlying46 Kq (by decide) (λn cs y h=>by
  obtain ⟨mk,kd,sd,dr,lv,sz,wnm,wn,fa,fb,ta,tb,e⟩:=Ts h
  exact ⟨(⟨mk,kd,sd,dr,lv,sz,wnm,fa,fb,ta,tb⟩,wn),e⟩) h
 obtain ⟨ao,cap,rfl,h1,h2,h3⟩:=Ec hx;have hb:=QA Tryz.underlying46 h hw;rw [QV] at hb;unfold reachBytes at hb;refine ⟨xs.map (·.1),ao,cap,xs.map (·.2),by rw [List.length_map],?_,by rw [List.length_map];exact h1,?_,?_,by rw [List.length_map];omega⟩
 ·rcases h2 with h2|h2
  ·left;rw [h2];rfl
  ·exact Or.inr h2
 ·rcases h3 with h3|h3
  ·rw [h3];trivial
  ·exact (EX h3).1
 ·rcases h3 with h3|h3
  ·rw [h3];trivial
  ·exact (EX h3).2
structure ItO(W:World)(a:Addr)(k n:Int)(un:Nm)(u:Int)(ia:Option Addr)(ic:Nat)(its:Lt)(ma:Option Addr)(mc:Nat)(ms:List Mov)(n1 n2:List Int):Prop where
 c0:W.cell? (a.add 0)=some (int i64 k)
 c1:W.cell? (a.add 1)=some (int i64 n)
 c2:W.cell? (a.add 2)=some (sv un)
 c3:W.cell? (a.add 3)=some (int i64 u)
 c4:W.cell? (a.add 4)=some (.slice ia its.len ic)
 c5:W.cell? (a.add 5)=some (.slice ma ms.length mc)
 mf:(ms=[]∨ma=some ⟨blk ma,off ma,none⟩)∧ms.length≤maxLen∧B8 W (blk ma) (off ma) ms
 mn:NsAt W (Aq (blk ma) (off ma) ms) n1
 itf:(its.len=0∨ia=some ⟨blk ia,off ia,none⟩)∧its.len≤maxLen∧its.At W (blk ia) (off ia)
 itn:NsAt W (its.refsL (blk ia) (off ia)) n2
 fit:ms.length≤1000000000000000∧its.mfit
theorem To:∀(n:Nat) (c:Value) (y:DataW H×List MemPlace),DataW.trod et Tryz.prog W 0 (λ_=>true) true n 45 [c]=some y→Wt 45 y.1 →
  ∃(T:Lt) (ia:Option Addr) (ic:Nat) (ns:List Int),c=.slice ia T.len ic∧(T.len=0∨ia=some ⟨blk ia,off ia,none⟩)∧T.len≤maxLen∧T.At W (blk ia) (off ia)∧NsAt W (T.refsL (blk ia) (off ia)) ns∧T.mfit:=by
 intro n
 induction n using Nat.strongRecOn with
 | _ n ih =>
  intro c y h hw;rcases DataW.trod_slice Tryz.underlying45 h with ⟨e1,_⟩|⟨a,len,cap,elems,rest,m,rfl,e1,rfl,_,hO,hP,hl,hD,_⟩
  ·cases e1
   exact ⟨.nil,none,0,[],rfl,Or.inl rfl,Nat.zero_le _,trivial,trivial,trivial⟩
  ·cases e1
   rw [Kp] at hD;have hJ:=(hw.slice Tryz.underlying45).2
   have each:∀i,i<len→∃k n un u ia ic its ma mc ms n1 n2,ItO W (a.add (i*6)) k n un u ia ic its ma mc ms n1 n2:=by
    intro i hi;have h1:=hD i hi;obtain ⟨y,hy⟩:∃y,elems[i]?=some y:=⟨_,qg (by omega)⟩;rw [hy] at h1;obtain ⟨cs',h2,h3⟩:=Option.bind_eq_some_iff.1 h1;obtain ⟨_,hQ,hA⟩:=World.cells?_some h2;have hE:Wt 48 y.1:=hJ _ (List.mem_map.2 ⟨y,List.mem_of_getElem? hy,rfl⟩);obtain ⟨ys,m',rfl,rfl,hF,hB,hf⟩:=DataW.trod_struct Tryz.underlying48 h3;rw [Kp] at hF;obtain ⟨c0,c1,c2,c3,c4,c5,rfl⟩:=Sw hF;obtain ⟨y0,hK⟩:∃y,ys[0]?=some y:=⟨_,qg (by rw [hB];decide)⟩;obtain ⟨y1,hL⟩:∃y,ys[1]?=some y:=⟨_,qg (by rw [hB];decide)⟩;obtain ⟨y2,hM⟩:∃y,ys[2]?=some y:=⟨_,qg (by rw [hB];decide)⟩;obtain ⟨y3,hG⟩:∃y,ys[3]?=some y:=⟨_,qg (by rw [hB];decide)⟩;obtain ⟨y4,hH⟩:∃y,ys[4]?=some y:=⟨_,qg (by rw [hB];decide)⟩;have f0:DataW.trod et Tryz.prog W 0 (λ_=>true) true m' 3 (([c0,c1,c2,c3,c4,c5].drop 0).take (Tryz.prog.cellsOf 3))=some y0:=(hf 0 _ rfl).trans hK;have f1:DataW.trod et Tryz.prog W 0 (λ_=>true) true m' 3 (([c0,c1,c2,c3,c4,c5].drop 1).take (Tryz.prog.cellsOf 3))=some y1:=(hf 1 _ rfl).trans hL;have f2:DataW.trod et Tryz.prog W 0 (λ_=>true) true m' 44 (([c0,c1,c2,c3,c4,c5].drop 2).take (Tryz.prog.cellsOf 44))=some y2:=(hf 2 _ rfl).trans hM;have f3:DataW.trod et Tryz.prog W 0 (λ_=>true) true m' 45 (([c0,c1,c2,c3,c4,c5].drop 4).take (Tryz.prog.cellsOf 45))=some y3:=(hf 3 _ rfl).trans hG;have f4:DataW.trod et Tryz.prog W 0 (λ_=>true) true m' 46 (([c0,c1,c2,c3,c4,c5].drop 5).take (Tryz.prog.cellsOf 46))=some y4:=(hf 4 _ rfl).trans hH;rw [AV] at f0 f1;rw [Ep] at f2;rw [Kl] at f3;rw [OA] at f4;have w3:Wt 45 y3.1:=hE.field Tryz.underlying48 (j:=3) rfl (by rw [List.getElem?_map,hG];rfl);have w4:Wt 46 y4.1:=hE.field Tryz.underlying48 (j:=4) rfl (by rw [List.getElem?_map,hH];rfl);obtain ⟨k,e0,_,_⟩:=DataW.trod_int Tryz.underlying3 f0;cases e0;obtain ⟨nn,e1,_,_⟩:=DataW.trod_int Tryz.underlying3 f1;cases e1;obtain ⟨un,u,e2⟩:=JS f2;cases e2;obtain ⟨its,ia,ic,n2,e3,i1,i2,i3,i4,i5⟩:=ih m' (by omega) c4 y3 f3 w3;subst e3;obtain ⟨ms,ma,mc,n1,e4,m1,m2,m3,m4,m5⟩:=Tr f4 w4;subst e4;exact ⟨k,nn,un,u,ia,ic,its,ma,mc,ms,n1,n2,⟨hA 0 (by omega),hA 1 (by omega),hA 2 (by omega),hA 3 (by omega),hA 4 (by omega),hA 5 (by omega),⟨m1,m2,m3⟩,m4,⟨i1,i2,i3⟩,i4,m5,i5⟩⟩
   by_cases h0:len=0
   ·subst h0
    exact ⟨.nil,some a,cap,[],rfl,Or.inl rfl,Nat.zero_le _,trivial,trivial,trivial⟩
   ·obtain ⟨_,_,_,_,_,_,_,_,_,_,_,_,hI0⟩:=each 0 (by omega)
    have hN:=World.cell?_spot hI0.c0;obtain ⟨b,o,sp⟩:=a;have hC:sp=none:=by simpa [Addr.add] using hN
    subst hC
    have build:∀r j,j+r=len→∃(T:Lt) (ns:List Int),T.len=r∧T.At W b (o+j*6)∧NsAt W (T.refsL b (o+j*6)) ns∧T.mfit:=by
     intro r
     induction r with
     | zero=>intro j _;exact ⟨.nil,[],rfl,trivial,trivial,trivial⟩
     | succ r ihr =>
      intro j hj;obtain ⟨T,ns,t1,t2,t3,t4⟩:=ihr (j+1) (by omega);obtain ⟨k,nn,un,u,ia,ic,its,ma,mc,ms,n1,n2,hI⟩:=each j (by omega);have e:o+(j+1)*6=o+j*6+6:=by omega
      rw [e] at t2 t3;have ad:∀q,((⟨b,o,none⟩:Addr).add (j*6)).add q=⟨b,o+j*6+q,none⟩:=λq=>by rw [AM,AM]
      have d0:=hI.c0;have d1:=hI.c1;have d2:=hI.c2;have d3:=hI.c3;have d4:=hI.c4;have d5:=hI.c5;rw [ad] at d0 d1 d2 d3 d4 d5;exact ⟨.cons k nn un ia ic its ma mc ms T,u::(n1++(n2++ns)),by simp [Lt.len,t1],⟨⟨d0,d1,d2,d4,d5⟩,hI.mf,hI.itf,t2⟩,⟨d3,hI.mn.append (hI.itn.append t3)⟩,hI.fit.1,hI.fit.2,t4⟩
    obtain ⟨T,ns,t1,t2,t3,t4⟩:=build len 0 (by omega);simp only [Nat.zero_mul,Nat.add_zero] at t2 t3;exact ⟨T,some ⟨b,o,none⟩,cap,ns,by rw [t1],Or.inr rfl,by rw [t1];omega,t2,t3,t4⟩
end
end
end Go.Proofs.YtpnbpepkoekkoaaGreat
