/- The walk of the statement: part 2. -/
import Derived.Test.YtbkemlgfdklpfaaGreatDoorZ37
import Derived.Test.YtbkemlgfdklpfaaGreatDoorYLE4p1
import Derived.Test.YtbkemlgfdklpfaaGreatDoorZ4
set_option linter.unusedVariables false
set_option linter.unusedSimpArgs false
set_option maxRecDepth 100000
set_option maxHeartbeats 16000000
namespace Go.Proofs.YtbkemlgfdklpfaaGreatDoor
open Go.Value (int)
open Go.IntKind (i64)
section
open Go Go.ChangeShapes Go.WideShapes Go.ChangeAt Go.RowKit Go.Deep
section
variable {H:Type} {enc:TypeId×Value→H} {W:World}
theorem Wx{et:TypeId×Value→H}{n:Nat}{t e:TypeId}{ao:Option Addr}{l cap:Nat}{y:DataW H×List MemPlace}(ht:Tryz.prog.underlying t=some (.slice e))(h:DataW.trod et Tryz.prog W 0 (λ_=>true) true n t [.slice ao l cap]=some y):l≤cap:=by
 rcases DataW.trod_slice ht h with ⟨e1,_⟩|⟨a,len,cap',elems,rest,m,rfl,e1,rfl,_,hA,_⟩
 ·cases e1;exact Nat.zero_le _
 ·cases e1;exact hA
theorem WF{et:TypeId×Value→H}{n:Nat}{s:Ls}{y:DataW H×List MemPlace}(h:DataW.trod et Tryz.prog W 0 (λ_=>true) true n 30 s.cells.toList=some y):s.dances.length≤s.dc:=by
 obtain ⟨ys,m,rfl,rfl,hl,hB,hf⟩:=DataW.trod_struct Tryz.underlying30 h;obtain ⟨y10,hA⟩:∃y,ys[10]?=some y:=⟨_,qg (by rw [hB];decide)⟩;have f10:DataW.trod et Tryz.prog W 0 (λ_=>true) true m 28 ((s.cells.toList.drop 11).take (Tryz.prog.cellsOf 28))=some y10:=(hf 10 _ rfl).trans hA;rw [P1] at f10;exact Wx (ao:=s.da) Tryz.underlying28 f10
theorem Wo{s:Ls}{d:DataW H}{p:List MemPlace}(h:DataW.Trod enc Tryz.prog W 0 (λ_=>true) true 30 s.val d p):s.dances.length≤s.dc:=by
 obtain ⟨fuel,hf⟩:=h;exact WF hf
end
end
end Go.Proofs.YtbkemlgfdklpfaaGreatDoor
