/- Contracts and plain laws on the way to the statement: part 2. -/
import Init
import Derived.Test.YtggcbblikgankaaGreatDoorZ3
set_option linter.unusedVariables false
set_option linter.unusedSimpArgs false
set_option maxRecDepth 100000
set_option maxHeartbeats 16000000
namespace Go.Proofs.YtggcbblikgankaaGreatDoor
open Go.Value (int)
open Go.IntKind (i64)
section
structure Rol where
 name : List UInt8
 x : Int
 y : Int
 face : Int
 deriving DecidableEq
structure Tmp where
 bar : Int
 ticks : Int
 step : Int
 deriving DecidableEq
structure Pau where
 bar : Int
 kind : Int
 lo : Int
 hi : Int
 deriving DecidableEq
structure Con where
 frm : Int
 to : Int
 lo : Int
 hi : Int
 deriving DecidableEq
structure Sgn where
 id : Int
 role : Int
 bar : Int
 mark : Int
 kind : Int
 side : Int
 dir : Int
 level : Int
 size : Int
 wth : Int
 fn : Int
 fd : Int
 tn : Int
 td : Int
 deriving DecidableEq
structure Clk where
 bars : Int
 tempos : List Tmp
 pauses : List Pau
 spans : List Con
 deriving DecidableEq
structure Wrk where
 width : Int
 depth : Int
 ta : Int
 tb : Int
 tc : Int
 roles : List Rol
 clock : Clk
 signs : List Sgn
 deriving DecidableEq
structure Bod where
 name : List UInt8
 weight : Int
 lift : Int
 girth : Int
 step : Int
 jump : Int
 r0 : Int
 r1 : Int
 r2 : Int
 s0 : Int
 s1 : Int
 s2 : Int
 t0 : Int
 t1 : Int
 t2 : Int
 effort : Int
 recover : Int
 deriving DecidableEq
structure Rea where
 sign : Int
 dir : Int
 level : Int
 drop : Bool
 deriving DecidableEq
instance : Inhabited Rol := ⟨⟨[], 0, 0, 0⟩⟩
instance : Inhabited Tmp := ⟨⟨0, 0, 0⟩⟩
instance : Inhabited Pau := ⟨⟨0, 0, 0, 0⟩⟩
instance : Inhabited Con := ⟨⟨0, 0, 0, 0⟩⟩
instance : Inhabited Sgn := ⟨⟨0, 0, 0, 0, 0, 0, 0, 0, 0, 0, 0, 0, 0, 0⟩⟩
instance : Inhabited Rea := ⟨⟨0, 0, 0, false⟩⟩
def inB (n lo hi : Int) : Bool := decide (lo ≤ n) && decide (n ≤ hi)
theorem A4 {n lo hi : Int} : inB n lo hi = true ↔ lo ≤ n ∧ n ≤ hi := by unfold inB; simp
theorem Ah {n lo hi : Int} : inB n lo hi = false ↔ n < lo ∨ hi < n := by
 rw [← Bool.not_eq_true, A4]; omega
def AE (n d : Int) : Bool := inB d 1 1073741824 && inB n (-1073741824) 1073741824 && decide (Nat.gcd n.natAbs d.natAbs = 1)
def By (a b : Int) : Int := if a < b then -1 else if b < a then 1 else 0
def CM (a b c : Int) : Bool := inB c 1 32768 && inB a (-c) c && inB b (-c) c && decide (a * a + b * b = c * c) && decide (Nat.gcd (Nat.gcd a.natAbs b.natAbs) c.natAbs = 1)
def BO (l : List Tmp) (bar : Int) : Nat := l.countP fun t => decide (t.bar ≤ bar)
def AH (l : List Tmp) (bar : Int) : Int := let t := l[BO l bar - 1]!; t.ticks + (bar - t.bar) * t.step
def IQ (bars last : Int) (t : Tmp) : Bool := inB t.bar (last + 1) (bars - 1) && inB t.ticks (-65536) 65536 && inB t.step (-65536) 65536
def AK (bars : Int) : Int → List Tmp → Bool
 | _, [] => true
 | last, t :: r => IQ bars last t && AK bars t.bar r
def BE (l : List Tmp) : Nat → Bool
 | 0 => true
 | n + 1 => BE l n && inB (AH l n) 1 65536
def Hz (bars last : Int) (p : Pau) : Bool := inB p.bar (last + 1) (bars - 2) && inB p.kind 1 2 && inB p.lo 0 p.hi && decide (p.hi ≤ 1048576)
def AW (bars : Int) : Int → List Pau → Bool
 | _, [] => true
 | last, p :: r => Hz bars last p && AW bars p.bar r
def C9 (bars : Int) (s : Con) : Bool := inB s.frm 0 bars && inB s.to 0 bars && decide (s.frm ≠ s.to) && inB s.lo (-1099511627776) s.hi && decide (s.hi ≤ 1099511627776)
def BT (c : Clk) : Bool := decide (c.tempos.length ≤ 4096) && decide (c.pauses.length ≤ 4096) && decide (c.spans.length ≤ 256)
def Bv (c : Clk) : Bool := inB c.bars 1 4096 && (match c.tempos with | [] => false | t :: _ => decide (t.bar = 0))
def DB (c : Clk) : Bool := Bv c && AK c.bars (-1) c.tempos && BE c.tempos c.bars.toNat && AW c.bars (-1) c.pauses && c.spans.all (C9 c.bars)
def BP (c : Clk) : Int := if BT c then (if DB c then 0 else 130) else 2
def Cn (n : Int) (used : Bool) (lo hi : Int) : Bool := if used then inB n lo hi else decide (n = 0)
def Ac (x : Sgn) (roles : Int) : Bool :=
 if x.kind = 1 then inB x.side 1 2 && inB x.dir 1 8 && decide (x.level = 0) && inB x.size 1 16 && decide (x.wth = 0)
 else if x.kind = 2 then decide (x.side = 0) && inB x.dir 1 8 && decide (x.level = 0) && inB x.size 1 16 && decide (x.wth = 0)
 else if x.kind = 3 ∨ x.kind = 4 then inB x.side 1 2 && inB x.dir 0 8 && inB x.level 1 3 && decide (x.size = 0) && decide (x.wth = 0)
 else if x.kind = 5 then decide (x.side = 0) && inB x.dir 0 8 && inB x.level 1 3 && decide (x.size = 0) && decide (x.wth = 0)
 else if x.kind = 6 then decide (x.side = 0) && decide (x.dir = 0) && decide (x.level = 0) && inB x.size 1 7 && decide (x.wth = 0)
 else if x.kind = 7 ∨ x.kind = 8 then decide (x.side = 0) && decide (x.dir = 0) && decide (x.level = 0) && decide (x.size = 0) && inB x.wth 1 roles
 else if x.kind = 9 then inB x.side 1 2 && decide (x.dir = 0) && inB x.level 1 3 && decide (x.size = 0) && decide (x.wth = 0)
 else false
def Fj (x : Sgn) : Bool := AE x.fn x.fd && AE x.tn x.td && decide (0 ≤ x.fn) && decide (x.fn * x.td < x.tn * x.fd) && decide (x.tn ≤ x.td)
def Bl (x : Sgn) (roles bars : Int) : Bool := inB x.kind 1 9 && inB x.role 0 (roles - 1) && inB x.bar 0 (bars - 1) && inB x.mark 1 3 && Ac x roles && Fj x
def GT (roles bars last : Int) (x : Sgn) : Bool := decide (last < x.id) && decide (x.id ≤ 1048576) && Bl x roles bars
def AC (roles bars : Int) : Int → List Sgn → Bool
 | _, [] => true
 | last, x :: r => GT roles bars last x && AC roles bars x.id r
def Cy (width depth : Int) (r : Rol) : Bool := inB r.x 0 width && inB r.y 0 depth && inB r.face 0 7
def Eg (w : Wrk) : Bool := decide (w.roles.length ≤ 64) && decide (w.signs.length ≤ 4096)
def Cx (w : Wrk) : Bool := inB w.width 1 1000 && inB w.depth 1 1000 && CM w.ta w.tb w.tc && decide (0 ≤ w.ta) && decide (0 ≤ w.tb) && decide (w.roles ≠ [])
def E7 (w : Wrk) : Bool := Cx w && w.roles.all (Cy w.width w.depth) && AC w.roles.length w.clock.bars (-1) w.signs
def Ao (w : Wrk) : Int := if Eg w then (if BP w.clock ≠ 0 then BP w.clock else if E7 w then 0 else 190) else 2
end
section
def C0 (l : List Tmp) : Prop := l.Pairwise fun a b => a.bar < b.bar
theorem EI (l : List Tmp) (bar : Int) : BO l bar ≤ l.length := List.countP_le_length
theorem Oe {l : List Tmp} {bar : Int} (h : ∀ t ∈ l, bar < t.bar) : BO l bar = 0 := by
 unfold BO; rw [List.countP_eq_zero]; intro t ht; have := h t ht; simp; omega
theorem BL {bar : Int} : ∀ {l : List Tmp} {i : Nat} {t : Tmp}, C0 l → l[i]? = some t → (t.bar ≤ bar ↔ i < BO l bar)
 | [], _, _, _, h => by simp at h
 | a :: r, i, t, hs, h => by
  have hs' := List.pairwise_cons.1 hs
  by_cases ha : a.bar ≤ bar
  ·have e : BO (a :: r) bar = BO r bar + 1 := by unfold BO; rw [List.countP_cons_of_pos (by simpa using ha)]
   cases i with
   | zero => simp at h; subst h; rw [e]; constructor <;> intro _ <;> omega
   | succ i =>
    rw [e, BL hs'.2 (by simpa using h)]
    omega
  ·have e : BO (a :: r) bar = 0 := by
    refine Oe fun x hx => ?_
    rcases List.mem_cons.1 hx with rfl | hx
    ·omega
    ·have := hs'.1 x hx; omega
   have ht : ¬ t.bar ≤ bar := by
    have hm := List.mem_of_getElem? h
    rcases List.mem_cons.1 hm with rfl | hm
    ·omega
    ·have := hs'.1 t hm; omega
   rw [e]; constructor
   ·intro h; exact absurd h ht
   ·intro h; omega
end
end Go.Proofs.YtggcbblikgankaaGreatDoor
