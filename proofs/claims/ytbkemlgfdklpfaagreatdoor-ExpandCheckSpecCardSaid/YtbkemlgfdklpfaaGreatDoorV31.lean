/- Contracts and plain laws on the way to the statement: part 31. -/
import Derived.Test.YtbkemlgfdklpfaaGreatDoorV28
import Derived.OpenShut
import Derived.ShutString
import Derived.HandedShaped
import Derived.Test.YtbkemlgfdklpfaaGreatDoorV4
set_option linter.unusedVariables false
set_option linter.unusedSimpArgs false
set_option maxRecDepth 100000
set_option maxHeartbeats 16000000
namespace Go.Proofs.YtbkemlgfdklpfaaGreatDoor
open Go.Value (int)
open Go.IntKind (i64)
section
open Go Go.ChangeShapes Go.WideShapes Go.ChangeAt Go.RowKit Go.Deep
theorem UH{cs:List Value}(h:cs.length=2):∃c0 c1,cs=[c0,c1]:=by
 match cs,h with
 | [c0,c1],_=>exact ⟨c0,c1,rfl⟩
theorem SC{cs:List Value}(h:cs.length=3):∃c0 c1 c2,cs=[c0,c1,c2]:=by
 match cs,h with
 | [c0,c1,c2],_=>exact ⟨c0,c1,c2,rfl⟩
theorem ML{cs:List Value}(h:cs.length=4):∃c0 c1 c2 c3,cs=[c0,c1,c2,c3]:=by
 match cs,h with
 | [c0,c1,c2,c3],_=>exact ⟨c0,c1,c2,c3,rfl⟩
theorem UI{cs:List Value}(h:cs.length=6):∃c0 c1 c2 c3 c4 c5,cs=[c0,c1,c2,c3,c4,c5]:=by
 match cs,h with
 | [c0,c1,c2,c3,c4,c5],_=>exact ⟨c0,c1,c2,c3,c4,c5,rfl⟩
section
variable {H:Type} {et:TypeId×Value→H} {W:World}
theorem AD:Tryz.prog.cellsOf 3=1:=by kernel_rfl
theorem QL:Tryz.prog.cellsOf 9=1:=by kernel_rfl
theorem Kj:Tryz.prog.cellsOf 73=4:=by kernel_rfl
theorem IM:Tryz.prog.cellsOf 76=3:=by kernel_rfl
theorem IN:Tryz.prog.cellsOf 79=4:=by kernel_rfl
theorem IP:Tryz.prog.cellsOf 82=4:=by kernel_rfl
theorem Tv{n:Nat}{cs:List Value}{y:DataW H×List MemPlace}(h:DataW.trod et Tryz.prog W 0 (λ_=>true) true n 73 cs=some y):∃(nm:Nm) (x:Int) (y:Int) (f:Int),cs=[sv nm,int i64 x,int i64 y,int i64 f]:=by
 obtain ⟨ys,m,_,_,hl,hA,hf⟩:=DataW.trod_struct Tryz.underlying73 h;rw [Kj] at hl;obtain ⟨c0,c1,c2,c3,rfl⟩:=ML hl;obtain ⟨y0,hB⟩:∃y,ys[0]?=some y:=⟨_,qg (by rw [hA];decide)⟩;have f0:DataW.trod et Tryz.prog W 0 (λ_=>true) true m 9 (([c0,c1,c2,c3].drop 0).take (Tryz.prog.cellsOf 9))=some y0:=(hf 0 _ rfl).trans hB;rw [QL] at f0;obtain ⟨y1,hC⟩:∃y,ys[1]?=some y:=⟨_,qg (by rw [hA];decide)⟩;have f1:DataW.trod et Tryz.prog W 0 (λ_=>true) true m 3 (([c0,c1,c2,c3].drop 1).take (Tryz.prog.cellsOf 3))=some y1:=(hf 1 _ rfl).trans hC;rw [AD] at f1;obtain ⟨y2,hD⟩:∃y,ys[2]?=some y:=⟨_,qg (by rw [hA];decide)⟩;have f2:DataW.trod et Tryz.prog W 0 (λ_=>true) true m 3 (([c0,c1,c2,c3].drop 2).take (Tryz.prog.cellsOf 3))=some y2:=(hf 2 _ rfl).trans hD;rw [AD] at f2;obtain ⟨y3,hE⟩:∃y,ys[3]?=some y:=⟨_,qg (by rw [hA];decide)⟩;have f3:DataW.trod et Tryz.prog W 0 (λ_=>true) true m 3 (([c0,c1,c2,c3].drop 3).take (Tryz.prog.cellsOf 3))=some y3:=(hf 3 _ rfl).trans hE;rw [AD] at f3;obtain ⟨s0,e0,_,_⟩:=DataW.trod_string Tryz.underlying9 f0;cases e0;obtain ⟨x,e1,_,_⟩:=DataW.trod_int Tryz.underlying3 f1;cases e1;obtain ⟨y,e2,_,_⟩:=DataW.trod_int Tryz.underlying3 f2;cases e2;obtain ⟨f,e3,_,_⟩:=DataW.trod_int Tryz.underlying3 f3;cases e3;exact ⟨s0.data.toList,x,y,f,rfl⟩
theorem Rp{n:Nat}{cs:List Value}{y:DataW H×List MemPlace}(h:DataW.trod et Tryz.prog W 0 (λ_=>true) true n 76 cs=some y):∃(b:Int) (t:Int) (s:Int),cs=[int i64 b,int i64 t,int i64 s]:=by
 obtain ⟨ys,m,_,_,hl,hA,hf⟩:=DataW.trod_struct Tryz.underlying76 h;rw [IM] at hl;obtain ⟨c0,c1,c2,rfl⟩:=SC hl;obtain ⟨y0,hB⟩:∃y,ys[0]?=some y:=⟨_,qg (by rw [hA];decide)⟩;have f0:DataW.trod et Tryz.prog W 0 (λ_=>true) true m 3 (([c0,c1,c2].drop 0).take (Tryz.prog.cellsOf 3))=some y0:=(hf 0 _ rfl).trans hB;rw [AD] at f0;obtain ⟨y1,hC⟩:∃y,ys[1]?=some y:=⟨_,qg (by rw [hA];decide)⟩;have f1:DataW.trod et Tryz.prog W 0 (λ_=>true) true m 3 (([c0,c1,c2].drop 1).take (Tryz.prog.cellsOf 3))=some y1:=(hf 1 _ rfl).trans hC;rw [AD] at f1;obtain ⟨y2,hD⟩:∃y,ys[2]?=some y:=⟨_,qg (by rw [hA];decide)⟩;have f2:DataW.trod et Tryz.prog W 0 (λ_=>true) true m 3 (([c0,c1,c2].drop 2).take (Tryz.prog.cellsOf 3))=some y2:=(hf 2 _ rfl).trans hD;rw [AD] at f2;obtain ⟨b,e0,_,_⟩:=DataW.trod_int Tryz.underlying3 f0;cases e0;obtain ⟨t,e1,_,_⟩:=DataW.trod_int Tryz.underlying3 f1;cases e1;obtain ⟨s,e2,_,_⟩:=DataW.trod_int Tryz.underlying3 f2;cases e2;exact ⟨b,t,s,rfl⟩
theorem Rq{n:Nat}{cs:List Value}{y:DataW H×List MemPlace}(h:DataW.trod et Tryz.prog W 0 (λ_=>true) true n 79 cs=some y):∃(b:Int) (k:Int) (l:Int) (hh:Int),cs=[int i64 b,int i64 k,int i64 l,int i64 hh]:=by
 obtain ⟨ys,m,_,_,hl,hA,hf⟩:=DataW.trod_struct Tryz.underlying79 h;rw [IN] at hl;obtain ⟨c0,c1,c2,c3,rfl⟩:=ML hl;obtain ⟨y0,hB⟩:∃y,ys[0]?=some y:=⟨_,qg (by rw [hA];decide)⟩;have f0:DataW.trod et Tryz.prog W 0 (λ_=>true) true m 3 (([c0,c1,c2,c3].drop 0).take (Tryz.prog.cellsOf 3))=some y0:=(hf 0 _ rfl).trans hB;rw [AD] at f0;obtain ⟨y1,hC⟩:∃y,ys[1]?=some y:=⟨_,qg (by rw [hA];decide)⟩;have f1:DataW.trod et Tryz.prog W 0 (λ_=>true) true m 3 (([c0,c1,c2,c3].drop 1).take (Tryz.prog.cellsOf 3))=some y1:=(hf 1 _ rfl).trans hC;rw [AD] at f1;obtain ⟨y2,hD⟩:∃y,ys[2]?=some y:=⟨_,qg (by rw [hA];decide)⟩;have f2:DataW.trod et Tryz.prog W 0 (λ_=>true) true m 3 (([c0,c1,c2,c3].drop 2).take (Tryz.prog.cellsOf 3))=some y2:=(hf 2 _ rfl).trans hD;rw [AD] at f2;obtain ⟨y3,hE⟩:∃y,ys[3]?=some y:=⟨_,qg (by rw [hA];decide)⟩;have f3:DataW.trod et Tryz.prog W 0 (λ_=>true) true m 3 (([c0,c1,c2,c3].drop 3).take (Tryz.prog.cellsOf 3))=some y3:=(hf 3 _ rfl).trans hE;rw [AD] at f3;obtain ⟨b,e0,_,_⟩:=DataW.trod_int Tryz.underlying3 f0;cases e0;obtain ⟨k,e1,_,_⟩:=DataW.trod_int Tryz.underlying3 f1;cases e1;obtain ⟨l,e2,_,_⟩:=DataW.trod_int Tryz.underlying3 f2;cases e2;obtain ⟨hh,e3,_,_⟩:=DataW.trod_int Tryz.underlying3 f3;cases e3;exact ⟨b,k,l,hh,rfl⟩
theorem Rr{n:Nat}{cs:List Value}{y:DataW H×List MemPlace}(h:DataW.trod et Tryz.prog W 0 (λ_=>true) true n 82 cs=some y):∃(f:Int) (t:Int) (l:Int) (hh:Int),cs=[int i64 f,int i64 t,int i64 l,int i64 hh]:=by
 obtain ⟨ys,m,_,_,hl,hA,hf⟩:=DataW.trod_struct Tryz.underlying82 h;rw [IP] at hl;obtain ⟨c0,c1,c2,c3,rfl⟩:=ML hl;obtain ⟨y0,hB⟩:∃y,ys[0]?=some y:=⟨_,qg (by rw [hA];decide)⟩;have f0:DataW.trod et Tryz.prog W 0 (λ_=>true) true m 3 (([c0,c1,c2,c3].drop 0).take (Tryz.prog.cellsOf 3))=some y0:=(hf 0 _ rfl).trans hB;rw [AD] at f0;obtain ⟨y1,hC⟩:∃y,ys[1]?=some y:=⟨_,qg (by rw [hA];decide)⟩;have f1:DataW.trod et Tryz.prog W 0 (λ_=>true) true m 3 (([c0,c1,c2,c3].drop 1).take (Tryz.prog.cellsOf 3))=some y1:=(hf 1 _ rfl).trans hC;rw [AD] at f1;obtain ⟨y2,hD⟩:∃y,ys[2]?=some y:=⟨_,qg (by rw [hA];decide)⟩;have f2:DataW.trod et Tryz.prog W 0 (λ_=>true) true m 3 (([c0,c1,c2,c3].drop 2).take (Tryz.prog.cellsOf 3))=some y2:=(hf 2 _ rfl).trans hD;rw [AD] at f2;obtain ⟨y3,hE⟩:∃y,ys[3]?=some y:=⟨_,qg (by rw [hA];decide)⟩;have f3:DataW.trod et Tryz.prog W 0 (λ_=>true) true m 3 (([c0,c1,c2,c3].drop 3).take (Tryz.prog.cellsOf 3))=some y3:=(hf 3 _ rfl).trans hE;rw [AD] at f3;obtain ⟨f,e0,_,_⟩:=DataW.trod_int Tryz.underlying3 f0;cases e0;obtain ⟨t,e1,_,_⟩:=DataW.trod_int Tryz.underlying3 f1;cases e1;obtain ⟨l,e2,_,_⟩:=DataW.trod_int Tryz.underlying3 f2;cases e2;obtain ⟨hh,e3,_,_⟩:=DataW.trod_int Tryz.underlying3 f3;cases e3;exact ⟨f,t,l,hh,rfl⟩
instance:Inhabited (Mov×Int):=⟨(default,0)⟩
instance:Inhabited (Dan×Int×Int):=⟨(default,0,0)⟩
end
end
end Go.Proofs.YtbkemlgfdklpfaaGreatDoor
