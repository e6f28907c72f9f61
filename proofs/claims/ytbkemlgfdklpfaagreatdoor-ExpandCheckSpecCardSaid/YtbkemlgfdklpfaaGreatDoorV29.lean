/- Contracts and plain laws on the way to the statement: part 29. -/
import Derived.Test.YtbkemlgfdklpfaaGreatDoorV28
import Derived.Carry
import Derived.Deep.Draws
import Derived.Deep.Slices
import Derived.Lib.Hide
import Derived.ProofKit
import Derived.SizedLaws
import Derived.WalkKit
import Init
import Derived.Test.YtbkemlgfdklpfaaGreatDoorV4
set_option linter.unusedVariables false
set_option linter.unusedSimpArgs false
set_option maxRecDepth 100000
set_option maxHeartbeats 16000000
namespace Go.Proofs.YtbkemlgfdklpfaaGreatDoor
open Go.Value (int)
open Go.IntKind (i64)
section
open Go Go.RowKit
structure Clk where
 bars:Int
 tempos:List Tmp
 pauses:List Pau
 spans:List Con
 deriving DecidableEq
def inB(n lo hi:Int):Bool:=decide (lo≤n)&&decide (n≤hi)
theorem AL{n lo hi:Int}:inB n lo hi=true↔lo≤n∧n≤hi:=by unfold inB;simp
theorem BZ{n lo hi:Int}:inB n lo hi=false↔n<lo∨hi<n:=by
 rw [← Bool.not_eq_true,AL];omega
def Bh(n d:Int):Bool:=inB d 1 1073741824&&inB n (-1073741824) 1073741824&&decide (Nat.gcd n.natAbs d.natAbs=1)
def CQ(a b:Int):Int:=if a<b then -1 else if b<a then 1 else 0
def Do(l:List Tmp)(bar:Int):Nat:=l.countP λt=>decide (t.bar≤bar)
def Ev(l:List Tmp)(bar:Int):Int:=let t:=l[Do l bar-1]!;t.ticks+(bar-t.bar)*t.step
def Ot(bars last:Int)(t:Tmp):Bool:=inB t.bar (last+1) (bars-1)&&inB t.ticks (-65536) 65536&&inB t.step (-65536) 65536
def DJ(bars:Int):Int→List Tmp→Bool
 | _,[]=>true
 | last,t::r=>Ot bars last t&&DJ bars t.bar r
def Dk(l:List Tmp):Nat→Bool
 | 0=>true
 | n+1=>Dk l n&&inB (Ev l n) 1 65536
def NN(bars last:Int)(p:Pau):Bool:=inB p.bar (last+1) (bars-2)&&inB p.kind 1 2&&inB p.lo 0 p.hi&&decide (p.hi≤1048576)
def E0(bars:Int):Int→List Pau→Bool
 | _,[]=>true
 | last,p::r=>NN bars last p&&E0 bars p.bar r
def Gp(bars:Int)(s:Con):Bool:=inB s.frm 0 bars&&inB s.to 0 bars&&decide (s.frm≠s.to)&&inB s.lo (-1099511627776) s.hi&&decide (s.hi≤1099511627776)
def DL(c:Clk):Bool:=decide (c.tempos.length≤4096)&&decide (c.pauses.length≤4096)&&decide (c.spans.length≤256)
def C7(c:Clk):Bool:=inB c.bars 1 4096&&(match c.tempos with|[]=>false|t::_=>decide (t.bar=0))
def E8(c:Clk):Bool:=C7 c&&DJ c.bars (-1) c.tempos&&Dk c.tempos c.bars.toNat&&E0 c.bars (-1) c.pauses&&c.spans.all (Gp c.bars)
def C8(c:Clk):Int:=if DL c then (if E8 c then 0 else 130) else 2
end
end Go.Proofs.YtbkemlgfdklpfaaGreatDoor
