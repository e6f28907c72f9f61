/- Contracts and plain laws on the way to the statement: part 30. -/
import Derived.Test.YtpnbpepkoekkoaaGreatZ27
import Derived.StillTailTactics
import Derived.Laws.Rows
import Derived.Test.YtpnbpepkoekkoaaGreatZ3
set_option linter.unusedVariables false
set_option linter.unusedSimpArgs false
set_option maxRecDepth 100000
set_option maxHeartbeats 16000000
namespace Go.Proofs.YtpnbpepkoekkoaaGreat
open Go.Value (int)
open Go.IntKind (i64)
section
open Go Go.RowKit Go.Deep
end
section
open Go Go.RowKit Go.Deep
variable {f:RefL→Int→Int} {Wb:World} {Z B0:Nat} {z:Ls} {ks:List Int} {v:Value} {i:Nat} {W:World}
end
section
open Go Go.RowKit Go.Deep
theorem DF(b:Nat):∀(o:Nat) (ds:List Dan),(Al b o ds).length=ds.length*2
 | _,[]=>rfl
 | o,d::r=>by simp only [Al,List.length_cons];rw [DF b (o+6) r];omega
theorem An{P:Program}{ops:Array Oper}{rest:List Oper}{o:Oper}{a:Act}{w:World}{Q:Exit→Act→World→Prop}(hA:Region.wanted o (yielded ops a.tmps)=true)(ty:TypeId)(x:Operand)(ho:o.op=.load ty x)
  (g:Nat) (hx:a.eval x=.pointer (some ⟨g,0,none⟩)) (t:TypeId) (cs:Array Value) (fr:Nat×Nat) (d:TypeDesc) (hg:w.heap[g]?=some (.cells cs t fr))
  (hu:P.underlying ty=some d) (hd:(match d with|.struct _|.array _ _=>true|_=>false)=true) (hi:(P.info? ty).map (·.size)=some cs.size)
  (h:wpList P ops Q rest (a.put o.dst (.agg cs)) w):wpList P ops Q (o::rest) a w :=
 wpList_step λK hK=>by rw [if_pos hA];exact wp_load_row ty x ho g hx t cs fr d hg hu hd hi (hK _ _ h)
structure Bx(x:Ls)(ks:List Int)(X:Nat)(W:World):Prop where
 box:W.heap[X]?=some (.cells x.cells 30 (0,0))
 at_:x.At W
 ns:NsAt W x.refs ks
theorem Bx.next{x:Ls}{ks:List Int}{X:Nat}{W W':World}(h:Bx x ks X W)(hb:Below W.heap.size W W'):Bx x ks X W':=⟨Ah hb h.box,h.at_.below hb,h.ns.below hb⟩
end
end Go.Proofs.YtpnbpepkoekkoaaGreat
