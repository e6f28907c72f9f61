/- Contracts and plain laws on the way to the statement: part 3. -/
import Derived.OrdersHeld
import Derived.Deep.RegionHeld3
import Derived.Test.YtbkemlgfdklpfaaDoorZ4
set_option linter.unusedVariables false
set_option linter.unusedSimpArgs false
set_option maxRecDepth 100000
set_option maxHeartbeats 16000000
namespace Go.Proofs.YtbkemlgfdklpfaaDoor
open Go.Value (int)
open Go.IntKind (i64)
section
open Go
section
variable {P:Program} {ops:Array Oper} {Q:Exit→Act→World→Prop} {md:Region.Mode} {D1 D2:Nat} {S1 S2:World→Prop}
def Dc(P:Program)(md:Region.Mode)(ops:Array Oper)(Q:Exit→Act→World→Prop)(D1 D2:Nat)(S1 S2:World→Prop):Nat→Array Bool→Act→World→Prop
 | 0,listed,a,w=>Region.ready md ops listed=[]∧Q .normal a w
 | fuel+1,listed,a,w =>
  (Region.ready md ops listed=[]→Q .normal a w) ∧
  ∀i∈Region.ready md ops listed,wpOp P ops Q i (λa' w'=>(((listed.setIfInBounds i true).getD D1 true=false→S1 w')∧((listed.setIfInBounds i true).getD D2 true=false→S2 w'))∧Dc P md ops Q D1 D2 S1 S2 fuel (listed.setIfInBounds i true) a' w') a w
theorem IP:∀(fuel:Nat) (listed:Array Bool) (a:Act) (w:World),Dc P md ops Q D1 D2 S1 S2 fuel listed a w→wpAny P md ops Q fuel listed a w
 | 0,_,_,_,h=>h
 | fuel+1,_,_,_,h=>⟨h.1,λi hi=>wpOp_mono (λa' w' h'=>IP fuel _ a' w' h'.2) (h.2 i hi)⟩
theorem DV{listed:Array Bool}{i D:Nat}(h:(listed.setIfInBounds i true).getD D true=false):listed.getD D true=false:=by
 by_cases e:i=D
 ·subst e
  rcases Nat.lt_or_ge i listed.size with h'|h'
  ·simp [h'] at h
  ·simp [h'] at h
 ·rw [getD_set_ne true e] at h;exact h
theorem FM{D:Nat}{S:World→Prop}(hT:(D=D1∧S=S1)∨(D=D2∧S=S2)){i:Nat}{oi:Oper}{v:Value}(hi:ops[i]?=some oi)(hD:∀(j:Nat) (o:Oper) cs b,ops[j]?=some o→o.op≠.select cs b)
  (hQ:∀c a w,Q (.panic c) (a.put oi.dst v) w→Q (.panic c) a w) (U:List Nat) (hU:∀m∈U,∃o,ops[m]?=some o∧∃e∈o.after,Region.binds md e=true∧(e.on=i∨e.on∈U)) (hL:D∈U) (hV:i≠D1) (hW:i≠D2) :
  ∀(fuel:Nat) (listed:Array Bool) (a:Act) (w:World),
   (∀j oj,ops[j]?=some oj→j≠i→listed.getD j true=false→(∀e∈oj.after,Region.binds md e=true→e.on≠i)→oi.apart ops oj=true) →
   i∈Region.ready md ops listed→(∀m∈U,listed.getD m true=false∧m<listed.size)→YieldsIf P ops S oi v a→(listed.getD D1 true=false→S1 w)→(listed.getD D2 true=false→S2 w) →
   Dc P md ops Q D1 D2 S1 S2 fuel (listed.setIfInBounds i true) (a.put oi.dst v) w→Dc P md ops Q D1 D2 S1 S2 (fuel+1) listed a w:=by
 have hM:∀(listed:Array Bool) (w:World),listed.getD D true=false→(listed.getD D1 true=false→S1 w)→(listed.getD D2 true=false→S2 w)→S w:=by
  intro listed w hl h1 h2;rcases hT with ⟨rfl,rfl⟩|⟨rfl,rfl⟩
  ·exact h1 hl
  ·exact h2 hl
 intro fuel
 induction fuel with
 | zero =>
  intro listed a w _ hr hl hy hE hF H;refine ⟨λh=>(by rw [h] at hr;cases hr),λj hj=>?_⟩;by_cases hA:j=i
  ·subst hA;exact hy.wpOp hi (hM listed w (hl D hL).1 hE hF) ⟨⟨λh=>hE (DV h),λh=>hF (DV h)⟩,H⟩
  ·have:=ready_mono hj hA
   rw [H.1] at this;cases this
 | succ fuel ih =>
  intro listed a w hB hr hl hy hE hF H;refine ⟨λh=>(by rw [h] at hr;cases hr),λj hj=>?_⟩;by_cases hA:j=i
  ·subst hA;exact hy.wpOp hi (hM listed w (hl D hL).1 hE hF) ⟨⟨λh=>hE (DV h),λh=>hF (DV h)⟩,H⟩
  ·have h1:=H.2 j (ready_mono hj hA)
   obtain ⟨hK,oj,hJ,hG⟩:=mem_ready.1 hj
   have hH:∀e∈oj.after,Region.binds md e=true→e.on≠i:=λe he hb hX=>by
    have h1:=hG e he hb;have h0:=(mem_ready.1 hr).1;rw [hX] at h1;rcases Nat.lt_or_ge i listed.size with h'|h'
    ·simp [h'] at h0 h1;rw [h0] at h1;cases h1
    ·simp [Array.getElem?_eq_none h'] at h1
   have hY:j∉U:=λe=>by
    obtain ⟨oD,hN,e1,hO,hP,hI⟩:=hU j e;rw [hJ] at hN;cases hN;rcases hI with hI|hI
    ·exact hH e1 hO hP hI
    ·have h1:=hG e1 hO hP
     obtain ⟨h2,h3⟩:=hl _ hI;simp [h3] at h1 h2;rw [h2] at h1;cases h1
   have h2:=wpOp_putIf hJ (hB j oj hJ hA hK hH) (λcs b=>hD i oi cs b hi) (λcs b=>hD j oj cs b hJ) hQ hy h1;have hC:∀k ok,ops[k]?=some ok→k≠i→(listed.setIfInBounds j true).getD k true=false →
     (∀e∈ok.after,Region.binds md e=true→e.on≠i)→oi.apart ops ok=true:=λk ok hk hZ ha hc=>by
    refine hB k ok hk hZ ?_ hc;exact DV ha
   refine wpOp_mono (λa' w' h3=>?_) h2
   have hR:(listed.setIfInBounds j true).getD D1 true=false→S1 w':=λh=>h3.2.1.1 (by
    rw [Array.setIfInBounds_comm _ _ (Ne.symm hA)]
    rw [getD_set_ne true hV];exact h)
   have hS:(listed.setIfInBounds j true).getD D2 true=false→S2 w':=λh=>h3.2.1.2 (by
    rw [Array.setIfInBounds_comm _ _ (Ne.symm hA)]
    rw [getD_set_ne true hW];exact h)
   refine ⟨⟨hR,hS⟩,ih (listed.setIfInBounds j true) a' w' hC (ready_mono hr (Ne.symm hA)) ?_ h3.1 hR hS ?_⟩
   ·intro m hm
    have hd:j≠m:=λe=>hY (e▸hm)
    exact ⟨by rw [getD_set_ne true hd];exact (hl m hm).1,by simpa using (hl m hm).2⟩
   ·rw [Array.setIfInBounds_comm _ _ hA]
    exact h3.2.2
def Ku(md:Region.Mode)(ops:Array Oper)(listed:Array Bool)(U:List Nat)(i:Nat):Bool:=U.all λm=>(!(listed.getD m true)&&decide (m<listed.size))&&match ops[m]? with
 | none=>false
 | some o=>o.after.any λe=>Region.binds md e&&(e.on==i||U.contains e.on)
theorem DG{listed:Array Bool}{U:List Nat}{i:Nat}(h:Ku md ops listed U i=true):(∀m∈U,∃o,ops[m]?=some o∧∃e∈o.after,Region.binds md e=true∧(e.on=i∨e.on∈U))∧∀m∈U,listed.getD m true=false∧m<listed.size:=by
 unfold Ku at h;rw [List.all_eq_true] at h;refine ⟨λm hm=>?_,λm hm=>?_⟩
 ·have:=h m hm
  rw [Bool.and_eq_true] at this;obtain ⟨_,h2⟩:=this
  split at h2
  ·cases h2
  ·rename_i o ho
   obtain ⟨e,h1,h2⟩:=Array.any_eq_true'.1 h2;simp only [Bool.and_eq_true,Bool.or_eq_true,beq_iff_eq,List.contains_iff_mem] at h2;exact ⟨o,ho,e,h1,h2.1,h2.2⟩
 ·have:=h m hm
  rw [Bool.and_eq_true,Bool.and_eq_true,Bool.not_eq_true',decide_eq_true_eq] at this;exact this.1
theorem Sx(U:List Nat){i:Nat}{oi:Oper}{v:Value}{fuel:Nat}{listed:Array Bool}{a:Act}{w:World}(hi:ops[i]?=some oi)
  (hs:(Region.noSelect ops&&(Region.free md ops listed i&&((Region.ready md ops listed).contains i&&(Ku md ops listed U i&&(U.contains D1&&(decide (i≠D1)&&decide (i≠D2)))))))=true)
  (hQ:∀c a w,Q (.panic c) (a.put oi.dst v) w→Q (.panic c) a w) (hy:YieldsIf P ops S1 oi v a) (hA:S1 w) (hB:listed.getD D2 true=false→S2 w)
  (h:Dc P md ops Q D1 D2 S1 S2 fuel (listed.setIfInBounds i true) (a.put oi.dst v) w):Dc P md ops Q D1 D2 S1 S2 (fuel+1) listed a w:=by
 simp only [Bool.and_eq_true,decide_eq_true_eq] at hs;obtain ⟨h1,h2,h3,h4,h5,h6,h7⟩:=hs;exact FM (Or.inl ⟨rfl,rfl⟩) hi (Region.noSelect_spec h1) hQ U (DG h4).1 (by simpa using h5) h6 h7 fuel listed a w (Region.free_spec hi h2) (by simpa using h3) (DG h4).2 hy (λ_=>hA) hB h
theorem Sy(U:List Nat){i:Nat}{oi:Oper}{v:Value}{fuel:Nat}{listed:Array Bool}{a:Act}{w:World}(hi:ops[i]?=some oi)
  (hs:(Region.noSelect ops&&(Region.free md ops listed i&&((Region.ready md ops listed).contains i&&(Ku md ops listed U i&&(U.contains D2&&(decide (i≠D1)&&decide (i≠D2)))))))=true)
  (hQ:∀c a w,Q (.panic c) (a.put oi.dst v) w→Q (.panic c) a w) (hy:YieldsIf P ops S2 oi v a) (hA:listed.getD D1 true=false→S1 w) (hB:S2 w)
  (h:Dc P md ops Q D1 D2 S1 S2 fuel (listed.setIfInBounds i true) (a.put oi.dst v) w):Dc P md ops Q D1 D2 S1 S2 (fuel+1) listed a w:=by
 simp only [Bool.and_eq_true,decide_eq_true_eq] at hs;obtain ⟨h1,h2,h3,h4,h5,h6,h7⟩:=hs;exact FM (Or.inr ⟨rfl,rfl⟩) hi (Region.noSelect_spec h1) hQ U (DG h4).1 (by simpa using h5) h6 h7 fuel listed a w (Region.free_spec hi h2) (by simpa using h3) (DG h4).2 hy hA (λ_=>hB) h
theorem SV(D1 D2:Nat)(S1 S2:World→Prop){id:Nat}{a:Act}{w:World}(hm:P.follows .mixedOrders=true)
  (h:Dc P .any ops Q D1 D2 S1 S2 ops.size (Array.replicate ops.size false) a w.drew):(Code.region id ops true).wp P Q a w :=
 wp_region_any hm (IP _ _ _ _ h)
theorem Ug{i:Nat}{o:Oper}{fuel:Nat}{listed:Array Bool}{a:Act}{w:World}(hr:Region.ready md ops listed=[i])(ho:ops[i]?=some o)
  (h:∀K':Act→World→Prop,Shut (∀a w,((listed.setIfInBounds i true).getD D1 true=false→S1 w)→((listed.setIfInBounds i true).getD D2 true=false→S2 w)→Dc P md ops Q D1 D2 S1 S2 fuel (listed.setIfInBounds i true) a w→K' a w)→if Region.wanted o (yielded ops a.tmps)=true then Oper.wp P o a w K' Q else K' (a.put o.dst undef) w) :
  Dc P md ops Q D1 D2 S1 S2 (fuel+1) listed a w:=by
 refine ⟨λh0=>(by rw [hr] at h0;cases h0),λj hj=>?_⟩;rw [hr] at hj;rw [List.mem_singleton.1 hj];exact wpOp_step ho (λK' hK=>h K' (λa w h1 h2 hW=>hK a w ⟨⟨h1,h2⟩,hW⟩))
theorem SU{listed:Array Bool}{a:Act}{w:World}(hr:Region.ready md ops listed=[])(h:Q .normal a w) :
  ∀fuel,Dc P md ops Q D1 D2 S1 S2 fuel listed a w
 | 0=>⟨hr,h⟩
 | _+1=>⟨λ_=>h,by rw [hr];simp⟩
end
end
end Go.Proofs.YtbkemlgfdklpfaaDoor
