/- The walk of the statement: part 3. -/
import Derived.Test.YtbkemlgfdklpfaaGreatDoorZ40
import Derived.Test.YtbkemlgfdklpfaaGreatDoorYLE4p1
import Derived.Test.YtbkemlgfdklpfaaGreatDoorZ4
set_option linter.unusedVariables false
set_option linter.unusedSimpArgs false
set_option maxRecDepth 100000
set_option maxHeartbeats 16000000
namespace Go.Proofs.YtbkemlgfdklpfaaGreatDoor
open Go.Value (int)
open Go.IntKind (i64)
section
open Go Go.RowKit Go.Shelf Go.Deep
def Ls.only(s:Ls)(a:Option Addr)(c:Nat)(d:Dan):Ls:={ s with da:=a,dc:=c,dances:=[d] }
theorem Wj{n:Nat}{R:List Sgn}(hR:∀s∈R,0≤s.bar∧s.bar<n)(hs:R.Pairwise (λx y=>C3 y x=false)):IT n R=R :=
 EO IR _ _ (JF n R) hs λx=>JE hR x
theorem VZ(g:Nm→Int)(rl:Int):∀(tt:Int) (l:List BarR),(Bh g rl tt l).Pairwise (λx y=>C3 y x=false)
 | _,[]=>List.Pairwise.nil
 | tt,y::r=>by
  rw [Bh];refine List.pairwise_append.2 ⟨?_,VZ g rl (tt+1) r,λx hx z hz=>?_⟩
  ·unfold sgs
   refine List.Pairwise.map _ (R:=λ_ _=>True) (λx z _=>?_) (List.pairwise_of_forall λ_ _=>trivial);unfold C3 Lb;simp
  ·have:=GW g rl (tt+1) r z hz
   unfold sgs at hx;obtain ⟨m,_,rfl⟩:=List.mem_map.1 hx;unfold C3;have e:(Lb m (g m.wn) y.mir rl tt).bar=tt:=rfl;rw [e];exact decide_eq_false (by omega)
theorem Wc(s:Ls)(a:Option Addr)(c:Nat)(d:Dan):Fk (s.only a c d)=Bh (I8 s.strip) (I8 s.strip d.rn) d.bar ((NB s d).bars (JB s.ltsL (AI s.strip))):=by
 have:Fk (s.only a c d)=Bh (I8 s.strip) (I8 s.strip d.rn) d.bar ((NB s d).bars (JB s.ltsL (AI s.strip)))++[]:=rfl;rw [this,List.append_nil]
theorem Wp{s:Ls}{a:Option Addr}{c:Nat}{d:Dan}{ns:List Int}(h:Bc (s.only a c d) ns=0):DP (s.only a c d)=Qd 0 (Fk (s.only a c d)):=by
 unfold DP;rw [Wj (Qr h) (by rw [Wc];exact VZ _ _ _ _)]
theorem Wi{w:World}:∀{xs ys:List RefL} {ks:List Int},NsAt w (xs++ys) ks→∃k1 k2,NsAt w xs k1∧NsAt w ys k2
 | [],_,ks,h=>⟨[],ks,trivial,h⟩
 | x::xs,_,[],h=>h.elim
 | x::xs,ys,k::ks,⟨h1,h2⟩=>by
  obtain ⟨k1,k2,h3,h4⟩:=Wi h2;exact ⟨k::k1,k2,⟨h1,h3⟩,h4⟩
def WG(d:Dan)(n k:Int):List Value:=[sv d.rn,int i64 n,sv d.pn,int i64 k,int i64 d.bar,.bool d.mirror]
theorem WD{s:Ls}{w V:World}{k1:List Int}{G o c:Nat}{d:Dan}{n k:Int}(hA:s.At w)(hN:NsAt w (Ap s.phrases) k1)(hb:Below w.heap.size w V)(h:V.rangeAt G o (WG d n k)):(s.only (some ⟨G,o,none⟩) c d).At V∧NsAt V (s.only (some ⟨G,o,none⟩) c d).refs (k1++[n,k]):=by
 have hA:=hA.below hb;have a0:=h 0 _ rfl;have a1:=h 1 _ rfl;have a2:=h 2 _ rfl;have a3:=h 3 _ rfl;have a4:=h 4 _ rfl;have a5:=h 5 _ rfl;exact ⟨⟨hA.roles,hA.tempos,hA.pauses,hA.spans,hA.pform,hA.plen,hA.phrases,Or.inr rfl,(show 1≤maxLen by decide),⟨a0,a2,a4,a5⟩,trivial⟩,(hN.below hb).append ⟨a1,a3,trivial⟩⟩
def wkC(s:Ls)(ra a0 a1 a2 a3:Option Addr)(rc c0 c1 c2 c3 n:Nat):Array Value:=#[int i64 s.wd,int i64 s.dp,int i64 (mkA s.t0 s.t1),int i64 (mkB s.t0 s.t1),int i64 (mkC s.t0 s.t1),.slice ra s.roles.length rc,int i64 s.bars,.slice a0 s.tempos.length c0,.slice a1 s.pauses.length c1,.slice a2 s.spans.length c2,.slice a3 n c3]
theorem WH(s:Ls)(ns:List Int)(w:World)(hA:s.At w)(hN:NsAt w s.refs ns)(he:Env w):Calls Tryz.prog 11 #[s.val] w λe w'=>Below w.heap.size w w' ∧
  ((∃k:Int,k≠0∧((Bc s ns≠0∧k=Bc s ns)∨s.roles=[]∨4096<(Fk s).length)∧e=.returned (.tuple #[.agg wkZ,int i64 k])) ∨
  (Bc s ns=0∧s.roles≠[]∧(Fk s).length≤4096∧∃(ra a0 a1 a2 a3:Option Addr) (rc c0 c1 c2 c3:Nat),e=.returned (.tuple #[.agg (wkC s ra a0 a1 a2 a3 rc c0 c1 c2 c3 (DP s).length),int i64 0])∧IsRow Ay 14 w' (.slice a3 (DP s).length c3) (DP s))):=by
 by_cases hs:Bc s ns=0
 ·by_cases hr:s.roles=[]
  ·refine (KJ s ns w hA hN he hs hr).mono ?_
   rintro e w' ⟨rfl,hb⟩;exact ⟨hb,Or.inl ⟨190,by decide,Or.inr (Or.inl hr),rfl⟩⟩
  ·refine (M7 s ns w hA hN he hs hr).mono ?_
   rintro e w' ⟨hb,h⟩;refine ⟨hb,?_⟩;rcases h with ⟨h,rfl⟩|⟨h,ra,a0,a1,a2,a3,rc,c0,c1,c2,c3,rfl,_,_,_,_,h5⟩
   ·exact Or.inl ⟨2,by decide,Or.inr (Or.inr h),rfl⟩
   ·exact Or.inr ⟨hs,hr,h,ra,a0,a1,a2,a3,rc,c0,c1,c2,c3,rfl,h5.1⟩
 ·refine (M9 s ns _ w hA hN he rfl hs).mono ?_
  rintro e w' ⟨rfl,hb⟩;exact ⟨hb,Or.inl ⟨_,hs,Or.inl ⟨hs,rfl⟩,rfl⟩⟩
theorem Wh{α β:Type}{f g:α→List β}(h:∀x,f x=g x){l:List α}:l.flatMap f=l.flatMap g:=by rw [funext h]
end
end Go.Proofs.YtbkemlgfdklpfaaGreatDoor
