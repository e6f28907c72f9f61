/- Contracts and plain laws on the way to the statement: part 21. -/
import Derived.Test.YtbkemlgfdklpfaaGreatDoorV20
import Derived.Test.YtbkemlgfdklpfaaGreatDoorV4
set_option linter.unusedVariables false
set_option linter.unusedSimpArgs false
set_option maxRecDepth 100000
set_option maxHeartbeats 16000000
namespace Go.Proofs.YtbkemlgfdklpfaaGreatDoor
open Go.Value (int)
open Go.IntKind (i64)
section
open Go Go.RowKit
theorem Pk(B0 yB tB:Nat)(J:List RefL→World→Prop)(Jx Jp:World→Prop)(ia:Option Addr)(ic:Nat)(pre:List RefL)(W:World)(hj:J pre W) :
  Calls Tryz.prog 131 #[.slice ia 0 ic,.pointer (some ⟨yB,0,none⟩),.pointer (some ⟨tB,0,none⟩)] W (InP B0 J Jx Jp pre [] true W):=by
 have hP:InP B0 J Jx Jp pre [] true W (.returned (.bool true)) W:=Or.inl ⟨rfl,rfl,by simpa using hj,Beyond.refl _ _⟩;have HP:=qh hP;clear hP hj;go_enter Tryz.func131,Tryz.ntmps131;go_wp2_with fail;go_loopw [13] (λiv wr=>iv=int i64 0∧wr=W) (λ_ _=>0)
 case atStart=>exact ⟨rfl,rfl⟩
 case round =>
  obtain ⟨rfl,rfl⟩:=hrel;go_wp2_with fail;go_ret;exact HP.out
theorem Th(B0 l yB tB:Nat)(J:List RefL→World→Prop)(Jx Jp:World→Prop)(A:List RefL)(ok:Prop)(Rd:World→Prop)(hH:InH B0 l J Jx Jp A ok Rd):∀(s:Nat) (T:Lt),T.size≤s →
  ∀(ia:Option Addr) (ic:Nat) (pre post:List RefL) (W:World),(T.len=0∨ia=some ⟨blk ia,off ia,none⟩)→T.len≤maxLen→A=pre++(T.refsL (blk ia) (off ia)++post)→(∀W,Rd W→T.At W (blk ia) (off ia))→(T.strip.kinds=false→¬ok)→InW B0 l yB tB W→J pre W →
   Calls Tryz.prog 131 #[.slice ia T.len ic,.pointer (some ⟨yB,0,none⟩),.pointer (some ⟨tB,0,none⟩)] W (InP B0 J Jx Jp pre (T.refsL (blk ia) (off ia)) T.strip.kinds W):=by
 intro s
 induction s with
 | zero =>
  intro T hs ia ic pre post W hf hl hA hT hB hW hj
  cases T with
  | cons=>simp [Lt.size] at hs
  | nil=>exact Pk B0 yB tB J Jx Jp ia ic pre W hj
 | succ s ih =>
  intro T hs ia ic pre post W hf hl hA hT hB hW hj;by_cases h0:T.len=0
  ·obtain rfl:=Lt.len_zero h0
   exact Pk B0 yB tB J Jx Jp ia ic pre W hj
  ·have e:=hf.resolve_left h0
   rw [e];exact QZ B0 l yB tB J Jx Jp A ok Rd hH T (λT' hC=>ih T' (by omega)) (blk ia) (off ia) ic pre post W hl hA hT hB hW hj
end
end Go.Proofs.YtbkemlgfdklpfaaGreatDoor
