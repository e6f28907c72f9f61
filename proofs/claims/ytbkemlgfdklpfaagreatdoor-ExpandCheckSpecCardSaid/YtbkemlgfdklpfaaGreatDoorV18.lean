/- Contracts and plain laws on the way to the statement: part 18. -/
import Derived.Test.YtbkemlgfdklpfaaGreatDoorV17
import Derived.OrdersHeld
import Derived.Test.YtbkemlgfdklpfaaGreatDoorV4
set_option linter.unusedVariables false
set_option linter.unusedSimpArgs false
set_option maxRecDepth 100000
set_option maxHeartbeats 16000000
namespace Go.Proofs.YtbkemlgfdklpfaaGreatDoor
open Go.Value (int)
open Go.IntKind (i64)
section
open Go Go.RowKit
variable {P:Program}
theorem Ov{n:Nat}{o:Oper}{a:Act}{next:Act→World→Prop}{Q:Exit→Act→World→Prop}{r:Result Next}(h:o.upon P a next Q r):o.uponIn Fence.wide n P a next Q r:=by
 cases r with
 | ok x w' =>
  cases x with
  | value v=>exact h
  | skip=>exact h
  | defer d=>exact h
  | enter f args=>exact ⟨(λh=>by cases h),callsIn_wide.2 h⟩
  | row r args=>exact ⟨(λh=>by cases h),λc cs _=>let ⟨v,w',r,s⟩:=h c cs;⟨v,w',r,stepsIn_wide.2 s⟩⟩
  | _=>exact h.elim
 | halt x w'=>cases x<;>exact h
theorem Fo{n:Nat}{ops:Array Oper}{Q:Exit→Act→World→Prop}(hQ:¬LetsOut Q):∀(is:List Nat) (a:Act) (w:World),wpOps P ops Q is a w→wpOpsIn Fence.wide n P ops Q is a w
 | [],_,_,h=>h
 | i::rest,a,w,h=>by
  unfold wpOps at h;unfold wpOpsIn
  cases ho:ops[i]? with
  | none=>simp only [ho] at h ⊢;exact Fo hQ rest a w h
  | some o =>
   simp only [ho] at h ⊢
   split
   ·rename_i hw
    rw [if_pos hw] at h;have h2:=h.resolve_right (λh=>hQ h.2);refine Oper.wpIn_mono (λa w h=>Fo hQ rest a w h) ⟨λ_ _=>trivial,?_⟩;exact Ov h2
   ·rename_i hw
    rw [if_neg hw] at h;exact ⟨λ_ _=>trivial,Fo hQ rest _ w h⟩
theorem Dv{n l:Nat}{id:Nat}{Q:Exit→Act→World→Prop}{S:World→Prop}{a:Act}{w:World}{ops:List Oper}(hm:P.follows .mixedOrders=true)(hD:Gz ops=true)(hQ:¬LetsOut Q)
  (h:wpAnyH P .any ops.toArray Q S ops.toArray.size (Array.replicate ops.toArray.size false) a { w with drawn:=w.drawn+1 }):(Code.region id ops.toArray true).wpIn (Fence.wide.inRound l) n P Q a w:=by
 refine wpIn_region_draw λt=>DE rfl (Fl hD) _ _ _ (Fo hQ _ _ _ ?_)
 simp only [Region.schedule,hm,Bool.true_or,if_true];exact wpAny_sound ops.toArray.size t _ a _ (wpAny_of_held _ _ _ _ h)
end
end Go.Proofs.YtbkemlgfdklpfaaGreatDoor
