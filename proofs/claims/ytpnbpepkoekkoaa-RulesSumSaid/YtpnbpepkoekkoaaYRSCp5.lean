/- The walk of the statement: part 5. -/
import Derived.Test.YtpnbpepkoekkoaaZ1
import Derived.Test.YtpnbpepkoekkoaaZ8
import Derived.Test.YtpnbpepkoekkoaaZ33
import Derived.Carry
import Derived.Deep.Draws
import Derived.Deep.Slices
import Derived.Lib.Hide
import Derived.ProofKit
import Derived.SizedLaws
import Derived.WalkKit
import Init
set_option linter.unusedVariables false
set_option linter.unusedSimpArgs false
section
namespace Go.Proofs.Ytpnbpepkoekkoaa
open Go Go.RowKit
structure Clk where
 bars : Int
 tempos : List Tmp
 pauses : List Pau
 spans : List Con
 deriving DecidableEq
def inB (n lo hi : Int) : Bool := decide (lo ≤ n) && decide (n ≤ hi)
theorem inB_iff {n lo hi : Int} : inB n lo hi = true ↔ lo ≤ n ∧ n ≤ hi := by unfold inB; simp
theorem inB_false {n lo hi : Int} : inB n lo hi = false ↔ n < lo ∨ hi < n := by
 rw [← Bool.not_eq_true, inB_iff]; omega
def ratB (n d : Int) : Bool := inB d 1 1073741824 && inB n (-1073741824) 1073741824 && decide (Nat.gcd n.natAbs d.natAbs = 1)
def cmpI (a b : Int) : Int := if a < b then -1 else if b < a then 1 else 0
def upTo (l : List Tmp) (bar : Int) : Nat := l.countP fun t => decide (t.bar ≤ bar)
def ticksAt (l : List Tmp) (bar : Int) : Int := let t := l[upTo l bar - 1]!; t.ticks + (bar - t.bar) * t.step
def tmpB (bars last : Int) (t : Tmp) : Bool := inB t.bar (last + 1) (bars - 1) && inB t.ticks (-65536) 65536 && inB t.step (-65536) 65536
def tmpsB (bars : Int) : Int → List Tmp → Bool
 | _, [] => true
 | last, t :: r => tmpB bars last t && tmpsB bars t.bar r
def ticksB (l : List Tmp) : Nat → Bool
 | 0 => true
 | n + 1 => ticksB l n && inB (ticksAt l n) 1 65536
def pauB (bars last : Int) (p : Pau) : Bool := inB p.bar (last + 1) (bars - 2) && inB p.kind 1 2 && inB p.lo 0 p.hi && decide (p.hi ≤ 1048576)
def pausB (bars : Int) : Int → List Pau → Bool
 | _, [] => true
 | last, p :: r => pauB bars last p && pausB bars p.bar r
def conB (bars : Int) (s : Con) : Bool := inB s.frm 0 bars && inB s.to 0 bars && decide (s.frm ≠ s.to) && inB s.lo (-1099511627776) s.hi && decide (s.hi ≤ 1099511627776)
def clkLim (c : Clk) : Bool := decide (c.tempos.length ≤ 4096) && decide (c.pauses.length ≤ 4096) && decide (c.spans.length ≤ 256)
def clkHead (c : Clk) : Bool := inB c.bars 1 4096 && (match c.tempos with | [] => false | t :: _ => decide (t.bar = 0))
def clkB (c : Clk) : Bool := clkHead c && tmpsB c.bars (-1) c.tempos && ticksB c.tempos c.bars.toNat && pausB c.bars (-1) c.pauses && c.spans.all (conB c.bars)
def clkE (c : Clk) : Int := if clkLim c then (if clkB c then 0 else 130) else 2
end Go.Proofs.Ytpnbpepkoekkoaa
end
