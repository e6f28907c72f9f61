/- Contracts and plain laws on the way to the statement: part 31. -/
import Derived.Test.YtbkemlgfdklpfaaGreatDoorZ28
import Derived.OpenShut
import Derived.ShutString
import Derived.HandedShaped
import Derived.Test.YtbkemlgfdklpfaaGreatDoorZ4
set_option linter.unusedVariables false
set_option linter.unusedSimpArgs false
set_option maxRecDepth 100000
set_option maxHeartbeats 16000000
namespace Go.Proofs.YtbkemlgfdklpfaaGreatDoor
open Go.Value (int)
open Go.IntKind (i64)
section
open Go Go.ChangeShapes Go.WideShapes Go.ChangeAt Go.RowKit Go.Deep
theorem PU{cs:List Value}(h:cs.length=2):∃c0 c1,cs=[c0,c1]:=by
 match cs,h with
 | [c0,c1],_=>exact ⟨c0,c1,rfl⟩
theorem Vf{cs:List Value}(h:cs.length=3):∃c0 c1 c2,cs=[c0,c1,c2]:=by
 match cs,h with
 | [c0,c1,c2],_=>exact ⟨c0,c1,c2,rfl⟩
theorem PV{cs:List Value}(h:cs.length=4):∃c0 c1 c2 c3,cs=[c0,c1,c2,c3]:=by
 match cs,h with
 | [c0,c1,c2,c3],_=>exact ⟨c0,c1,c2,c3,rfl⟩
theorem PW{cs:List Value}(h:cs.length=6):∃c0 c1 c2 c3 c4 c5,cs=[c0,c1,c2,c3,c4,c5]:=by
 match cs,h with
 | [c0,c1,c2,c3,c4,c5],_=>exact ⟨c0,c1,c2,c3,c4,c5,rfl⟩
theorem PT{cs:List Value}(h:cs.length=12):∃c0 c1 c2 c3 c4 c5 c6 c7 c8 c9 c10 c11,cs=[c0,c1,c2,c3,c4,c5,c6,c7,c8,c9,c10,c11]:=by
 match cs,h with
 | [c0,c1,c2,c3,c4,c5,c6,c7,c8,c9,c10,c11],_=>exact ⟨c0,c1,c2,c3,c4,c5,c6,c7,c8,c9,c10,c11,rfl⟩
section
variable {H:Type} {et:TypeId×Value→H} {W:World}
theorem AE:Tryz.prog.cellsOf 3=1:=by kernel_rfl
theorem Rh:Tryz.prog.cellsOf 4=1:=by kernel_rfl
theorem Gz:Tryz.prog.cellsOf 9=1:=by kernel_rfl
theorem OV:Tryz.prog.cellsOf 22=2:=by kernel_rfl
theorem OW:Tryz.prog.cellsOf 23=1:=by kernel_rfl
theorem OX:Tryz.prog.cellsOf 24=1:=by kernel_rfl
theorem OY:Tryz.prog.cellsOf 25=1:=by kernel_rfl
theorem OZ:Tryz.prog.cellsOf 26=1:=by kernel_rfl
theorem P0:Tryz.prog.cellsOf 27=1:=by kernel_rfl
theorem P1:Tryz.prog.cellsOf 28=1:=by kernel_rfl
theorem P2:Tryz.prog.cellsOf 30=12:=by kernel_rfl
theorem E8:Tryz.prog.cellsOf 62=2:=by kernel_rfl
theorem Ks:Tryz.prog.cellsOf 55=1:=by kernel_rfl
theorem Kt:Tryz.prog.cellsOf 58=2:=by kernel_rfl
theorem Ku:Tryz.prog.cellsOf 73=4:=by kernel_rfl
theorem Kv:Tryz.prog.cellsOf 64=6:=by kernel_rfl
theorem P3:Tryz.prog.cellsOf 88=1:=by kernel_rfl
theorem Kw:Tryz.prog.cellsOf 121=6:=by kernel_rfl
theorem GX:Tryz.prog.cellsOf 52=2:=by kernel_rfl
theorem Kx:Tryz.prog.cellsOf 92=12:=by kernel_rfl
theorem IU:Tryz.prog.cellsOf 76=3:=by kernel_rfl
theorem IV:Tryz.prog.cellsOf 79=4:=by kernel_rfl
theorem IW:Tryz.prog.cellsOf 82=4:=by kernel_rfl
theorem JT{n:Nat}{cs:List Value}{y:DataW H×List MemPlace}(h:DataW.trod et Tryz.prog W 0 (λ_=>true) true n 62 cs=some y):∃(nm:Nm) (n:Int),cs=[sv nm,int i64 n]:=by
 obtain ⟨ys,m,_,_,hl,hA,hf⟩:=DataW.trod_struct Tryz.underlying62 h;rw [E8] at hl;obtain ⟨c0,c1,rfl⟩:=PU hl;obtain ⟨y0,hB⟩:∃y,ys[0]?=some y:=⟨_,qg (by rw [hA];decide)⟩;have f0:DataW.trod et Tryz.prog W 0 (λ_=>true) true m 9 (([c0,c1].drop 0).take (Tryz.prog.cellsOf 9))=some y0:=(hf 0 _ rfl).trans hB;rw [Gz] at f0;obtain ⟨y1,hC⟩:∃y,ys[1]?=some y:=⟨_,qg (by rw [hA];decide)⟩;have f1:DataW.trod et Tryz.prog W 0 (λ_=>true) true m 3 (([c0,c1].drop 1).take (Tryz.prog.cellsOf 3))=some y1:=(hf 1 _ rfl).trans hC;rw [AE] at f1;obtain ⟨s0,e0,_,_⟩:=DataW.trod_string Tryz.underlying9 f0;cases e0;obtain ⟨n,e1,_,_⟩:=DataW.trod_int Tryz.underlying3 f1;cases e1;exact ⟨s0.data.toList,n,rfl⟩
theorem Qg{n:Nat}{cs:List Value}{y:DataW H×List MemPlace}(h:DataW.trod et Tryz.prog W 0 (λ_=>true) true n 52 cs=some y):∃(a:Int) (b:Int),cs=[int i64 a,int i64 b]:=by
 obtain ⟨ys,m,_,_,hl,hA,hf⟩:=DataW.trod_struct Tryz.underlying52 h;rw [GX] at hl;obtain ⟨c0,c1,rfl⟩:=PU hl;obtain ⟨y0,hB⟩:∃y,ys[0]?=some y:=⟨_,qg (by rw [hA];decide)⟩;have f0:DataW.trod et Tryz.prog W 0 (λ_=>true) true m 3 (([c0,c1].drop 0).take (Tryz.prog.cellsOf 3))=some y0:=(hf 0 _ rfl).trans hB;rw [AE] at f0;obtain ⟨y1,hC⟩:∃y,ys[1]?=some y:=⟨_,qg (by rw [hA];decide)⟩;have f1:DataW.trod et Tryz.prog W 0 (λ_=>true) true m 3 (([c0,c1].drop 1).take (Tryz.prog.cellsOf 3))=some y1:=(hf 1 _ rfl).trans hC;rw [AE] at f1;obtain ⟨a,e0,_,_⟩:=DataW.trod_int Tryz.underlying3 f0;cases e0;obtain ⟨b,e1,_,_⟩:=DataW.trod_int Tryz.underlying3 f1;cases e1;exact ⟨a,b,rfl⟩
theorem TV{n:Nat}{cs:List Value}{y:DataW H×List MemPlace}(h:DataW.trod et Tryz.prog W 0 (λ_=>true) true n 73 cs=some y):∃(nm:Nm) (x:Int) (y:Int) (f:Int),cs=[sv nm,int i64 x,int i64 y,int i64 f]:=by
 obtain ⟨ys,m,_,_,hl,hA,hf⟩:=DataW.trod_struct Tryz.underlying73 h;rw [Ku] at hl;obtain ⟨c0,c1,c2,c3,rfl⟩:=PV hl;obtain ⟨y0,hB⟩:∃y,ys[0]?=some y:=⟨_,qg (by rw [hA];decide)⟩;have f0:DataW.trod et Tryz.prog W 0 (λ_=>true) true m 9 (([c0,c1,c2,c3].drop 0).take (Tryz.prog.cellsOf 9))=some y0:=(hf 0 _ rfl).trans hB;rw [Gz] at f0;obtain ⟨y1,hC⟩:∃y,ys[1]?=some y:=⟨_,qg (by rw [hA];decide)⟩;have f1:DataW.trod et Tryz.prog W 0 (λ_=>true) true m 3 (([c0,c1,c2,c3].drop 1).take (Tryz.prog.cellsOf 3))=some y1:=(hf 1 _ rfl).trans hC;rw [AE] at f1;obtain ⟨y2,hD⟩:∃y,ys[2]?=some y:=⟨_,qg (by rw [hA];decide)⟩;have f2:DataW.trod et Tryz.prog W 0 (λ_=>true) true m 3 (([c0,c1,c2,c3].drop 2).take (Tryz.prog.cellsOf 3))=some y2:=(hf 2 _ rfl).trans hD;rw [AE] at f2;obtain ⟨y3,hE⟩:∃y,ys[3]?=some y:=⟨_,qg (by rw [hA];decide)⟩;have f3:DataW.trod et Tryz.prog W 0 (λ_=>true) true m 3 (([c0,c1,c2,c3].drop 3).take (Tryz.prog.cellsOf 3))=some y3:=(hf 3 _ rfl).trans hE;rw [AE] at f3;obtain ⟨s0,e0,_,_⟩:=DataW.trod_string Tryz.underlying9 f0;cases e0;obtain ⟨x,e1,_,_⟩:=DataW.trod_int Tryz.underlying3 f1;cases e1;obtain ⟨y,e2,_,_⟩:=DataW.trod_int Tryz.underlying3 f2;cases e2;obtain ⟨f,e3,_,_⟩:=DataW.trod_int Tryz.underlying3 f3;cases e3;exact ⟨s0.data.toList,x,y,f,rfl⟩
theorem RT{n:Nat}{cs:List Value}{y:DataW H×List MemPlace}(h:DataW.trod et Tryz.prog W 0 (λ_=>true) true n 76 cs=some y):∃(b:Int) (t:Int) (s:Int),cs=[int i64 b,int i64 t,int i64 s]:=by
 obtain ⟨ys,m,_,_,hl,hA,hf⟩:=DataW.trod_struct Tryz.underlying76 h;rw [IU] at hl;obtain ⟨c0,c1,c2,rfl⟩:=Vf hl;obtain ⟨y0,hB⟩:∃y,ys[0]?=some y:=⟨_,qg (by rw [hA];decide)⟩;have f0:DataW.trod et Tryz.prog W 0 (λ_=>true) true m 3 (([c0,c1,c2].drop 0).take (Tryz.prog.cellsOf 3))=some y0:=(hf 0 _ rfl).trans hB;rw [AE] at f0;obtain ⟨y1,hC⟩:∃y,ys[1]?=some y:=⟨_,qg (by rw [hA];decide)⟩;have f1:DataW.trod et Tryz.prog W 0 (λ_=>true) true m 3 (([c0,c1,c2].drop 1).take (Tryz.prog.cellsOf 3))=some y1:=(hf 1 _ rfl).trans hC;rw [AE] at f1;obtain ⟨y2,hD⟩:∃y,ys[2]?=some y:=⟨_,qg (by rw [hA];decide)⟩;have f2:DataW.trod et Tryz.prog W 0 (λ_=>true) true m 3 (([c0,c1,c2].drop 2).take (Tryz.prog.cellsOf 3))=some y2:=(hf 2 _ rfl).trans hD;rw [AE] at f2;obtain ⟨b,e0,_,_⟩:=DataW.trod_int Tryz.underlying3 f0;cases e0;obtain ⟨t,e1,_,_⟩:=DataW.trod_int Tryz.underlying3 f1;cases e1;obtain ⟨s,e2,_,_⟩:=DataW.trod_int Tryz.underlying3 f2;cases e2;exact ⟨b,t,s,rfl⟩
theorem RU{n:Nat}{cs:List Value}{y:DataW H×List MemPlace}(h:DataW.trod et Tryz.prog W 0 (λ_=>true) true n 79 cs=some y):∃(b:Int) (k:Int) (l:Int) (hh:Int),cs=[int i64 b,int i64 k,int i64 l,int i64 hh]:=by
 obtain ⟨ys,m,_,_,hl,hA,hf⟩:=DataW.trod_struct Tryz.underlying79 h;rw [IV] at hl;obtain ⟨c0,c1,c2,c3,rfl⟩:=PV hl;obtain ⟨y0,hB⟩:∃y,ys[0]?=some y:=⟨_,qg (by rw [hA];decide)⟩;have f0:DataW.trod et Tryz.prog W 0 (λ_=>true) true m 3 (([c0,c1,c2,c3].drop 0).take (Tryz.prog.cellsOf 3))=some y0:=(hf 0 _ rfl).trans hB;rw [AE] at f0;obtain ⟨y1,hC⟩:∃y,ys[1]?=some y:=⟨_,qg (by rw [hA];decide)⟩;have f1:DataW.trod et Tryz.prog W 0 (λ_=>true) true m 3 (([c0,c1,c2,c3].drop 1).take (Tryz.prog.cellsOf 3))=some y1:=(hf 1 _ rfl).trans hC;rw [AE] at f1;obtain ⟨y2,hD⟩:∃y,ys[2]?=some y:=⟨_,qg (by rw [hA];decide)⟩;have f2:DataW.trod et Tryz.prog W 0 (λ_=>true) true m 3 (([c0,c1,c2,c3].drop 2).take (Tryz.prog.cellsOf 3))=some y2:=(hf 2 _ rfl).trans hD;rw [AE] at f2;obtain ⟨y3,hE⟩:∃y,ys[3]?=some y:=⟨_,qg (by rw [hA];decide)⟩;have f3:DataW.trod et Tryz.prog W 0 (λ_=>true) true m 3 (([c0,c1,c2,c3].drop 3).take (Tryz.prog.cellsOf 3))=some y3:=(hf 3 _ rfl).trans hE;rw [AE] at f3;obtain ⟨b,e0,_,_⟩:=DataW.trod_int Tryz.underlying3 f0;cases e0;obtain ⟨k,e1,_,_⟩:=DataW.trod_int Tryz.underlying3 f1;cases e1;obtain ⟨l,e2,_,_⟩:=DataW.trod_int Tryz.underlying3 f2;cases e2;obtain ⟨hh,e3,_,_⟩:=DataW.trod_int Tryz.underlying3 f3;cases e3;exact ⟨b,k,l,hh,rfl⟩
theorem RV{n:Nat}{cs:List Value}{y:DataW H×List MemPlace}(h:DataW.trod et Tryz.prog W 0 (λ_=>true) true n 82 cs=some y):∃(f:Int) (t:Int) (l:Int) (hh:Int),cs=[int i64 f,int i64 t,int i64 l,int i64 hh]:=by
 obtain ⟨ys,m,_,_,hl,hA,hf⟩:=DataW.trod_struct Tryz.underlying82 h;rw [IW] at hl;obtain ⟨c0,c1,c2,c3,rfl⟩:=PV hl;obtain ⟨y0,hB⟩:∃y,ys[0]?=some y:=⟨_,qg (by rw [hA];decide)⟩;have f0:DataW.trod et Tryz.prog W 0 (λ_=>true) true m 3 (([c0,c1,c2,c3].drop 0).take (Tryz.prog.cellsOf 3))=some y0:=(hf 0 _ rfl).trans hB;rw [AE] at f0;obtain ⟨y1,hC⟩:∃y,ys[1]?=some y:=⟨_,qg (by rw [hA];decide)⟩;have f1:DataW.trod et Tryz.prog W 0 (λ_=>true) true m 3 (([c0,c1,c2,c3].drop 1).take (Tryz.prog.cellsOf 3))=some y1:=(hf 1 _ rfl).trans hC;rw [AE] at f1;obtain ⟨y2,hD⟩:∃y,ys[2]?=some y:=⟨_,qg (by rw [hA];decide)⟩;have f2:DataW.trod et Tryz.prog W 0 (λ_=>true) true m 3 (([c0,c1,c2,c3].drop 2).take (Tryz.prog.cellsOf 3))=some y2:=(hf 2 _ rfl).trans hD;rw [AE] at f2;obtain ⟨y3,hE⟩:∃y,ys[3]?=some y:=⟨_,qg (by rw [hA];decide)⟩;have f3:DataW.trod et Tryz.prog W 0 (λ_=>true) true m 3 (([c0,c1,c2,c3].drop 3).take (Tryz.prog.cellsOf 3))=some y3:=(hf 3 _ rfl).trans hE;rw [AE] at f3;obtain ⟨f,e0,_,_⟩:=DataW.trod_int Tryz.underlying3 f0;cases e0;obtain ⟨t,e1,_,_⟩:=DataW.trod_int Tryz.underlying3 f1;cases e1;obtain ⟨l,e2,_,_⟩:=DataW.trod_int Tryz.underlying3 f2;cases e2;obtain ⟨hh,e3,_,_⟩:=DataW.trod_int Tryz.underlying3 f3;cases e3;exact ⟨f,t,l,hh,rfl⟩
theorem TW{n:Nat}{cs:List Value}{y:DataW H×List MemPlace}(h:DataW.trod et Tryz.prog W 0 (λ_=>true) true n 64 cs=some y):∃(rnm:Nm) (rn:Int) (pnm:Nm) (pn:Int) (b:Int) (m:Bool),cs=[sv rnm,int i64 rn,sv pnm,int i64 pn,int i64 b,.bool m]:=by
 obtain ⟨ys,m,_,_,hl,hA,hf⟩:=DataW.trod_struct Tryz.underlying64 h;rw [Kv] at hl;obtain ⟨c0,c1,c2,c3,c4,c5,rfl⟩:=PW hl;obtain ⟨y0,hB⟩:∃y,ys[0]?=some y:=⟨_,qg (by rw [hA];decide)⟩;have f0:DataW.trod et Tryz.prog W 0 (λ_=>true) true m 62 (([c0,c1,c2,c3,c4,c5].drop 0).take (Tryz.prog.cellsOf 62))=some y0:=(hf 0 _ rfl).trans hB;rw [E8] at f0;obtain ⟨y1,hC⟩:∃y,ys[1]?=some y:=⟨_,qg (by rw [hA];decide)⟩;have f1:DataW.trod et Tryz.prog W 0 (λ_=>true) true m 62 (([c0,c1,c2,c3,c4,c5].drop 2).take (Tryz.prog.cellsOf 62))=some y1:=(hf 1 _ rfl).trans hC;rw [E8] at f1;obtain ⟨y2,hD⟩:∃y,ys[2]?=some y:=⟨_,qg (by rw [hA];decide)⟩;have f2:DataW.trod et Tryz.prog W 0 (λ_=>true) true m 3 (([c0,c1,c2,c3,c4,c5].drop 4).take (Tryz.prog.cellsOf 3))=some y2:=(hf 2 _ rfl).trans hD;rw [AE] at f2;obtain ⟨y3,hE⟩:∃y,ys[3]?=some y:=⟨_,qg (by rw [hA];decide)⟩;have f3:DataW.trod et Tryz.prog W 0 (λ_=>true) true m 4 (([c0,c1,c2,c3,c4,c5].drop 5).take (Tryz.prog.cellsOf 4))=some y3:=(hf 3 _ rfl).trans hE;rw [Rh] at f3;obtain ⟨rnm,rn,e0⟩:=JT f0;cases e0;obtain ⟨pnm,pn,e1⟩:=JT f1;cases e1;obtain ⟨b,e2,_,_⟩:=DataW.trod_int Tryz.underlying3 f2;cases e2;obtain ⟨m,e3,_⟩:=DataW.trod_bool Tryz.underlying4 f3;cases e3;exact ⟨rnm,rn,pnm,pn,b,m,rfl⟩
theorem TY{n:Nat}{cs:List Value}{y:DataW H×List MemPlace}(h:DataW.trod et Tryz.prog W 0 (λ_=>true) true n 92 cs=some y):∃(mk:Int) (kd:Int) (sd:Int) (dr:Int) (lv:Int) (sz:Int) (wnm:Nm) (wn:Int) (fa:Int) (fb:Int) (ta:Int) (tb:Int),cs=[int i64 mk,int i64 kd,int i64 sd,int i64 dr,int i64 lv,int i64 sz,sv wnm,int i64 wn,int i64 fa,int i64 fb,int i64 ta,int i64 tb]:=by
 obtain ⟨ys,m,_,_,hl,hA,hf⟩:=DataW.trod_struct Tryz.underlying92 h;rw [Kx] at hl;obtain ⟨c0,c1,c2,c3,c4,c5,c6,c7,c8,c9,c10,c11,rfl⟩:=PT hl;obtain ⟨y0,hB⟩:∃y,ys[0]?=some y:=⟨_,qg (by rw [hA];decide)⟩;have f0:DataW.trod et Tryz.prog W 0 (λ_=>true) true m 3 (([c0,c1,c2,c3,c4,c5,c6,c7,c8,c9,c10,c11].drop 0).take (Tryz.prog.cellsOf 3))=some y0:=(hf 0 _ rfl).trans hB;rw [AE] at f0;obtain ⟨y1,hC⟩:∃y,ys[1]?=some y:=⟨_,qg (by rw [hA];decide)⟩;have f1:DataW.trod et Tryz.prog W 0 (λ_=>true) true m 3 (([c0,c1,c2,c3,c4,c5,c6,c7,c8,c9,c10,c11].drop 1).take (Tryz.prog.cellsOf 3))=some y1:=(hf 1 _ rfl).trans hC;rw [AE] at f1;obtain ⟨y2,hD⟩:∃y,ys[2]?=some y:=⟨_,qg (by rw [hA];decide)⟩;have f2:DataW.trod et Tryz.prog W 0 (λ_=>true) true m 3 (([c0,c1,c2,c3,c4,c5,c6,c7,c8,c9,c10,c11].drop 2).take (Tryz.prog.cellsOf 3))=some y2:=(hf 2 _ rfl).trans hD;rw [AE] at f2;obtain ⟨y3,hE⟩:∃y,ys[3]?=some y:=⟨_,qg (by rw [hA];decide)⟩;have f3:DataW.trod et Tryz.prog W 0 (λ_=>true) true m 3 (([c0,c1,c2,c3,c4,c5,c6,c7,c8,c9,c10,c11].drop 3).take (Tryz.prog.cellsOf 3))=some y3:=(hf 3 _ rfl).trans hE;rw [AE] at f3;obtain ⟨y4,hF⟩:∃y,ys[4]?=some y:=⟨_,qg (by rw [hA];decide)⟩;have f4:DataW.trod et Tryz.prog W 0 (λ_=>true) true m 3 (([c0,c1,c2,c3,c4,c5,c6,c7,c8,c9,c10,c11].drop 4).take (Tryz.prog.cellsOf 3))=some y4:=(hf 4 _ rfl).trans hF;rw [AE] at f4;obtain ⟨y5,hG⟩:∃y,ys[5]?=some y:=⟨_,qg (by rw [hA];decide)⟩;have f5:DataW.trod et Tryz.prog W 0 (λ_=>true) true m 3 (([c0,c1,c2,c3,c4,c5,c6,c7,c8,c9,c10,c11].drop 5).take (Tryz.prog.cellsOf 3))=some y5:=(hf 5 _ rfl).trans hG;rw [AE] at f5;obtain ⟨y6,hH⟩:∃y,ys[6]?=some y:=⟨_,qg (by rw [hA];decide)⟩;have f6:DataW.trod et Tryz.prog W 0 (λ_=>true) true m 62 (([c0,c1,c2,c3,c4,c5,c6,c7,c8,c9,c10,c11].drop 6).take (Tryz.prog.cellsOf 62))=some y6:=(hf 6 _ rfl).trans hH;rw [E8] at f6;obtain ⟨y7,hI⟩:∃y,ys[7]?=some y:=⟨_,qg (by rw [hA];decide)⟩;have f7:DataW.trod et Tryz.prog W 0 (λ_=>true) true m 52 (([c0,c1,c2,c3,c4,c5,c6,c7,c8,c9,c10,c11].drop 8).take (Tryz.prog.cellsOf 52))=some y7:=(hf 7 _ rfl).trans hI;rw [GX] at f7;obtain ⟨y8,hJ⟩:∃y,ys[8]?=some y:=⟨_,qg (by rw [hA];decide)⟩;have f8:DataW.trod et Tryz.prog W 0 (λ_=>true) true m 52 (([c0,c1,c2,c3,c4,c5,c6,c7,c8,c9,c10,c11].drop 10).take (Tryz.prog.cellsOf 52))=some y8:=(hf 8 _ rfl).trans hJ;rw [GX] at f8;obtain ⟨mk,e0,_,_⟩:=DataW.trod_int Tryz.underlying3 f0;cases e0;obtain ⟨kd,e1,_,_⟩:=DataW.trod_int Tryz.underlying3 f1;cases e1;obtain ⟨sd,e2,_,_⟩:=DataW.trod_int Tryz.underlying3 f2;cases e2;obtain ⟨dr,e3,_,_⟩:=DataW.trod_int Tryz.underlying3 f3;cases e3;obtain ⟨lv,e4,_,_⟩:=DataW.trod_int Tryz.underlying3 f4;cases e4;obtain ⟨sz,e5,_,_⟩:=DataW.trod_int Tryz.underlying3 f5;cases e5;obtain ⟨wnm,wn,e6⟩:=JT f6;cases e6;obtain ⟨fa,fb,e7⟩:=Qg f7;cases e7;obtain ⟨ta,tb,e8⟩:=Qg f8;cases e8;exact ⟨mk,kd,sd,dr,lv,sz,wnm,wn,fa,fb,ta,tb,rfl⟩
def Wt(t:TypeId)(d:DataW H):Prop:=∀n∈d.weights Tryz.prog t,n≤reachBytes
theorem Er{e:TypeId}:∀{l:List (DataW H)} {d:DataW H},d∈l→∀n∈d.weights Tryz.prog e,n∈DataW.weightsAll Tryz.prog e l
 | x::r,d,h,n,hn=>by
  simp only [DataW.weightsAll,List.mem_append];rcases List.mem_cons.1 h with rfl|h
  ·exact Or.inl hn
  ·exact Or.inr (Er h n hn)
theorem Wt.slice{t e:TypeId}(ht:Tryz.prog.underlying t=some (.slice e)){elems spare:List (DataW H)}(h:Wt t (.slice elems spare)):(elems.length+spare.length)*Tryz.prog.bytesOf e≤reachBytes∧∀d∈elems,Wt e d:=by
 unfold Wt at h;simp only [DataW.weights,ht,List.mem_cons,List.mem_append] at h;exact ⟨h _ (Or.inl rfl),λd hd n hn=>h n (Or.inr (Or.inl (Er hd n hn)))⟩
theorem Wt.field{t:TypeId}{fs:Array Field}(ht:Tryz.prog.underlying t=some (.struct fs)){parts:List (DataW H)}(h:Wt t (.agg parts)){j:Nat}{f:Field}{d:DataW H}(hf:fs[j]?=some f)(hd:parts[j]?=some d):Wt f.type d:=λn hn=>by
 refine h n ?_;simp only [DataW.weights,ht];exact DataW.weights_mem_each (j:=j) (by rw [List.getElem?_map,Array.getElem?_toList,hf];rfl) hd n hn
theorem QK{t e:TypeId}(ht:Tryz.prog.underlying t=some (.slice e)){n l cap:Nat}{ao:Option Addr}{y:DataW H×List MemPlace}(h:DataW.trod et Tryz.prog W 0 (λ_=>true) true n t [.slice ao l cap]=some y)(hw:Wt t y.1):l*Tryz.prog.bytesOf e≤reachBytes:=by
 rcases DataW.trod_slice ht h with ⟨e1,_⟩|⟨a,len,cap',elems,rest,m,rfl,e1,rfl,_,_,_,hl,_⟩
 ·have e2:l=0:=by
   simp only [List.cons.injEq,Value.slice.injEq,and_true] at e1;exact e1.2.1
  rw [e2,Nat.zero_mul];exact Nat.zero_le _
 ·have e2:l=len:=by
   simp only [List.cons.injEq,Value.slice.injEq,and_true] at e1;exact e1.2.1
  have h1:=(hw.slice ht).1;rw [List.length_map,List.length_map,hl,Nat.add_mul] at h1;rw [e2];exact Nat.le_trans (Nat.le_add_right _ _) h1
def Tw(x:Mov×Int):List Value:=[int i64 x.1.mark,int i64 x.1.kind,int i64 x.1.side,int i64 x.1.dir,int i64 x.1.level,int i64 x.1.size,sv x.1.wn,int i64 x.2,int i64 x.1.fa,int i64 x.1.fb,int i64 x.1.ta,int i64 x.1.tb]
def Tv(x:Dan×Int×Int):List Value:=[sv x.1.rn,int i64 x.2.1,sv x.1.pn,int i64 x.2.2,int i64 x.1.bar,.bool x.1.mirror]
theorem EY{b:Nat}:∀{xs:List (Mov×Int)} {o:Nat},AtRow Tw 12 W b o xs→B6 W b o (xs.map (·.1))∧NsAt W (As b o (xs.map (·.1))) (xs.map (·.2))
 | [],_,_=>⟨trivial,trivial⟩
 | x::r,o,h=>by
  have h0:∀j v,(Tw x)[j]?=some v→W.cell? ⟨b,o+j,none⟩=some v:=λj v hv=>by
   have:=h 0 x rfl j v hv;simpa using this
  obtain ⟨r1,r2⟩:=EY (xs:=r) (o:=o+12) (λi y hi j v hv=>by
   have:=h (i+1) y (by simpa using hi) j v hv
   rw [show o+(i+1)*12+j=o+12+i*12+j by omega] at this;exact this)
  exact ⟨⟨⟨h0 0 _ rfl,h0 1 _ rfl,h0 2 _ rfl,h0 3 _ rfl,h0 4 _ rfl,h0 5 _ rfl,h0 6 _ rfl,h0 8 _ rfl,h0 9 _ rfl,h0 10 _ rfl,h0 11 _ rfl⟩,r1⟩,⟨h0 7 _ rfl,r2⟩⟩
theorem ES{b:Nat}:∀{xs:List (Dan×Int×Int)} {o:Nat},AtRow Tv 6 W b o xs→Bq W b o (xs.map (·.1))∧NsAt W (An b o (xs.map (·.1))) (xs.flatMap λx=>[x.2.1,x.2.2])
 | [],_,_=>⟨trivial,trivial⟩
 | x::r,o,h=>by
  have h0:∀j v,(Tv x)[j]?=some v→W.cell? ⟨b,o+j,none⟩=some v:=λj v hv=>by
   have:=h 0 x rfl j v hv;simpa using this
  obtain ⟨r1,r2⟩:=ES (xs:=r) (o:=o+6) (λi y hi j v hv=>by
   have:=h (i+1) y (by simpa using hi) j v hv
   rw [show o+(i+1)*6+j=o+6+i*6+j by omega] at this;exact this)
  exact ⟨⟨⟨h0 0 _ rfl,h0 2 _ rfl,h0 4 _ rfl,h0 5 _ rfl⟩,r1⟩,⟨h0 1 _ rfl,h0 3 _ rfl,r2⟩⟩
theorem DH{α:Type}{enc:α→List Value}{k:Nat}{c:Value}{xs:List α}(h:IsRow enc k W c xs):∃ao cap,c=.slice ao xs.length cap∧xs.length≤maxLen∧(xs=[]∨ao=some ⟨blk ao,off ao,none⟩)∧(xs=[]∨AtRow enc k W (blk ao) (off ao) xs):=by
 obtain ⟨ao,cap,e,hl,h⟩:=h;refine ⟨ao,cap,e,hl,?_,?_⟩
 ·rcases h with h|⟨b,o,rfl,_,_⟩
  ·exact Or.inl h
  ·exact Or.inr rfl
 ·rcases h with h|⟨b,o,rfl,h,_⟩
  ·exact Or.inl h
  ·exact Or.inr h
instance:Inhabited (Mov×Int):=⟨(default,0)⟩
instance:Inhabited (Dan×Int×Int):=⟨(default,0,0)⟩
theorem Rg:Tryz.prog.bytesOf 92=104:=by kernel_rfl
theorem TX{n:Nat}{c:Value}{y:DataW H×List MemPlace}(h:DataW.trod et Tryz.prog W 0 (λ_=>true) true n 88 [c]=some y)(hw:Wt 88 y.1) :
  ∃(ms:List Mov) (ma:Option Addr) (mc:Nat) (ns:List Int),c=.slice ma ms.length mc∧(ms=[]∨ma=some ⟨blk ma,off ma,none⟩)∧ms.length≤maxLen∧B6 W (blk ma) (off ma) ms∧NsAt W (As (blk ma) (off ma) ms) ns∧ms.length≤1000000000000000:=by
 obtain ⟨xs,hx⟩:=Ci (enc:=Tw) Tryz.underlying88 Kx (by decide) (λn cs y h=>by
  obtain ⟨mk,kd,sd,dr,lv,sz,wnm,wn,fa,fb,ta,tb,e⟩:=TY h
  exact ⟨(⟨mk,kd,sd,dr,lv,sz,wnm,fa,fb,ta,tb⟩,wn),e⟩) h
 obtain ⟨ao,cap,rfl,h1,h2,h3⟩:=DH hx;have hb:=QK Tryz.underlying88 h hw;rw [Rg] at hb;unfold reachBytes at hb;refine ⟨xs.map (·.1),ao,cap,xs.map (·.2),by rw [List.length_map],?_,by rw [List.length_map];exact h1,?_,?_,by rw [List.length_map];omega⟩
 ·rcases h2 with h2|h2
  ·left;rw [h2];rfl
  ·exact Or.inr h2
 ·rcases h3 with h3|h3
  ·rw [h3];trivial
  ·exact (EY h3).1
 ·rcases h3 with h3|h3
  ·rw [h3];trivial
  ·exact (EY h3).2
structure ItO(W:World)(a:Addr)(k n:Int)(un:Nm)(u:Int)(ia:Option Addr)(ic:Nat)(its:Lt)(ma:Option Addr)(mc:Nat)(ms:List Mov)(n1 n2:List Int):Prop where
 c0:W.cell? (a.add 0)=some (int i64 k)
 c1:W.cell? (a.add 1)=some (int i64 n)
 c2:W.cell? (a.add 2)=some (sv un)
 c3:W.cell? (a.add 3)=some (int i64 u)
 c4:W.cell? (a.add 4)=some (.slice ia its.len ic)
 c5:W.cell? (a.add 5)=some (.slice ma ms.length mc)
 mf:(ms=[]∨ma=some ⟨blk ma,off ma,none⟩)∧ms.length≤maxLen∧B6 W (blk ma) (off ma) ms
 mn:NsAt W (As (blk ma) (off ma) ms) n1
 itf:(its.len=0∨ia=some ⟨blk ia,off ia,none⟩)∧its.len≤maxLen∧its.At W (blk ia) (off ia)
 itn:NsAt W (its.refsL (blk ia) (off ia)) n2
 fit:ms.length≤1000000000000000∧its.mfit
theorem TU:∀(n:Nat) (c:Value) (y:DataW H×List MemPlace),DataW.trod et Tryz.prog W 0 (λ_=>true) true n 55 [c]=some y→Wt 55 y.1 →
  ∃(T:Lt) (ia:Option Addr) (ic:Nat) (ns:List Int),c=.slice ia T.len ic∧(T.len=0∨ia=some ⟨blk ia,off ia,none⟩)∧T.len≤maxLen∧T.At W (blk ia) (off ia)∧NsAt W (T.refsL (blk ia) (off ia)) ns∧T.mfit:=by
 intro n
 induction n using Nat.strongRecOn with
 | _ n ih =>
  intro c y h hw;rcases DataW.trod_slice Tryz.underlying55 h with ⟨e1,_⟩|⟨a,len,cap,elems,rest,m,rfl,e1,rfl,_,hO,hP,hl,hD,_⟩
  ·cases e1
   exact ⟨.nil,none,0,[],rfl,Or.inl rfl,Nat.zero_le _,trivial,trivial,trivial⟩
  ·cases e1
   rw [Kw] at hD;have hJ:=(hw.slice Tryz.underlying55).2
   have each:∀i,i<len→∃k n un u ia ic its ma mc ms n1 n2,ItO W (a.add (i*6)) k n un u ia ic its ma mc ms n1 n2:=by
    intro i hi;have h1:=hD i hi;obtain ⟨y,hy⟩:∃y,elems[i]?=some y:=⟨_,qg (by omega)⟩;rw [hy] at h1;obtain ⟨cs',h2,h3⟩:=Option.bind_eq_some_iff.1 h1;obtain ⟨_,hQ,hA⟩:=World.cells?_some h2;have hE:Wt 121 y.1:=hJ _ (List.mem_map.2 ⟨y,List.mem_of_getElem? hy,rfl⟩);obtain ⟨ys,m',rfl,rfl,hF,hB,hf⟩:=DataW.trod_struct Tryz.underlying121 h3;rw [Kw] at hF;obtain ⟨c0,c1,c2,c3,c4,c5,rfl⟩:=PW hF;obtain ⟨y0,hK⟩:∃y,ys[0]?=some y:=⟨_,qg (by rw [hB];decide)⟩;obtain ⟨y1,hL⟩:∃y,ys[1]?=some y:=⟨_,qg (by rw [hB];decide)⟩;obtain ⟨y2,hM⟩:∃y,ys[2]?=some y:=⟨_,qg (by rw [hB];decide)⟩;obtain ⟨y3,hG⟩:∃y,ys[3]?=some y:=⟨_,qg (by rw [hB];decide)⟩;obtain ⟨y4,hH⟩:∃y,ys[4]?=some y:=⟨_,qg (by rw [hB];decide)⟩;have f0:DataW.trod et Tryz.prog W 0 (λ_=>true) true m' 3 (([c0,c1,c2,c3,c4,c5].drop 0).take (Tryz.prog.cellsOf 3))=some y0:=(hf 0 _ rfl).trans hK;have f1:DataW.trod et Tryz.prog W 0 (λ_=>true) true m' 3 (([c0,c1,c2,c3,c4,c5].drop 1).take (Tryz.prog.cellsOf 3))=some y1:=(hf 1 _ rfl).trans hL;have f2:DataW.trod et Tryz.prog W 0 (λ_=>true) true m' 62 (([c0,c1,c2,c3,c4,c5].drop 2).take (Tryz.prog.cellsOf 62))=some y2:=(hf 2 _ rfl).trans hM;have f3:DataW.trod et Tryz.prog W 0 (λ_=>true) true m' 55 (([c0,c1,c2,c3,c4,c5].drop 4).take (Tryz.prog.cellsOf 55))=some y3:=(hf 3 _ rfl).trans hG;have f4:DataW.trod et Tryz.prog W 0 (λ_=>true) true m' 88 (([c0,c1,c2,c3,c4,c5].drop 5).take (Tryz.prog.cellsOf 88))=some y4:=(hf 4 _ rfl).trans hH;rw [AE] at f0 f1;rw [E8] at f2;rw [Ks] at f3;rw [P3] at f4;have w3:Wt 55 y3.1:=hE.field Tryz.underlying121 (j:=3) rfl (by rw [List.getElem?_map,hG];rfl);have w4:Wt 88 y4.1:=hE.field Tryz.underlying121 (j:=4) rfl (by rw [List.getElem?_map,hH];rfl);obtain ⟨k,e0,_,_⟩:=DataW.trod_int Tryz.underlying3 f0;cases e0;obtain ⟨nn,e1,_,_⟩:=DataW.trod_int Tryz.underlying3 f1;cases e1;obtain ⟨un,u,e2⟩:=JT f2;cases e2;obtain ⟨its,ia,ic,n2,e3,i1,i2,i3,i4,i5⟩:=ih m' (by omega) c4 y3 f3 w3;subst e3;obtain ⟨ms,ma,mc,n1,e4,m1,m2,m3,m4,m5⟩:=TX f4 w4;subst e4;exact ⟨k,nn,un,u,ia,ic,its,ma,mc,ms,n1,n2,⟨hA 0 (by omega),hA 1 (by omega),hA 2 (by omega),hA 3 (by omega),hA 4 (by omega),hA 5 (by omega),⟨m1,m2,m3⟩,m4,⟨i1,i2,i3⟩,i4,m5,i5⟩⟩
   by_cases h0:len=0
   ·subst h0
    exact ⟨.nil,some a,cap,[],rfl,Or.inl rfl,Nat.zero_le _,trivial,trivial,trivial⟩
   ·obtain ⟨_,_,_,_,_,_,_,_,_,_,_,_,hI0⟩:=each 0 (by omega)
    have hN:=World.cell?_spot hI0.c0;obtain ⟨b,o,sp⟩:=a;have hC:sp=none:=by simpa [Addr.add] using hN
    subst hC
    have build:∀r j,j+r=len→∃(T:Lt) (ns:List Int),T.len=r∧T.At W b (o+j*6)∧NsAt W (T.refsL b (o+j*6)) ns∧T.mfit:=by
     intro r
     induction r with
     | zero=>intro j _;exact ⟨.nil,[],rfl,trivial,trivial,trivial⟩
     | succ r ihr =>
      intro j hj;obtain ⟨T,ns,t1,t2,t3,t4⟩:=ihr (j+1) (by omega);obtain ⟨k,nn,un,u,ia,ic,its,ma,mc,ms,n1,n2,hI⟩:=each j (by omega);have e:o+(j+1)*6=o+j*6+6:=by omega
      rw [e] at t2 t3;have ad:∀q,((⟨b,o,none⟩:Addr).add (j*6)).add q=⟨b,o+j*6+q,none⟩:=λq=>by rw [AN,AN]
      have d0:=hI.c0;have d1:=hI.c1;have d2:=hI.c2;have d3:=hI.c3;have d4:=hI.c4;have d5:=hI.c5;rw [ad] at d0 d1 d2 d3 d4 d5;exact ⟨.cons k nn un ia ic its ma mc ms T,u::(n1++(n2++ns)),by simp [Lt.len,t1],⟨⟨d0,d1,d2,d4,d5⟩,hI.mf,hI.itf,t2⟩,⟨d3,hI.mn.append (hI.itn.append t3)⟩,hI.fit.1,hI.fit.2,t4⟩
    obtain ⟨T,ns,t1,t2,t3,t4⟩:=build len 0 (by omega);simp only [Nat.zero_mul,Nat.add_zero] at t2 t3;exact ⟨T,some ⟨b,o,none⟩,cap,ns,by rw [t1],Or.inr rfl,by rw [t1];omega,t2,t3,t4⟩
end
end
end Go.Proofs.YtbkemlgfdklpfaaGreatDoor
