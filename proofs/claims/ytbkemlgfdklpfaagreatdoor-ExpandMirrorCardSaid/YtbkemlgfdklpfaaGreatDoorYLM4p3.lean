/- The walk of the statement: part 3. -/
import Derived.Test.YtbkemlgfdklpfaaGreatDoorZ40
import Derived.Test.YtbkemlgfdklpfaaGreatDoorYLM4p1
import Derived.Test.YtbkemlgfdklpfaaGreatDoorYLM4p2
import Derived.Test.YtbkemlgfdklpfaaGreatDoorZ4
set_option linter.unusedVariables false
set_option linter.unusedSimpArgs false
set_option maxRecDepth 100000
set_option maxHeartbeats 16000000
namespace Go.Proofs.YtbkemlgfdklpfaaGreatDoor
open Go.Value (int)
open Go.IntKind (i64)
section
open Go Go.RowKit Go.Shelf Go.Deep
theorem Wf(f:Sgn→Sgn)(hf:∀(x:Sgn) (k:Int),f { x with id:=k }={ f x with id:=k }):∀(k:Int) (l:List Sgn),Qd k (l.map f)=(Qd k l).map f
 | _,[]=>rfl
 | k,x::r=>by 
  rw [List.map_cons,Qd,Qd,List.map_cons,Wf f hf (k+1) r];exact congrArg (·::_) (hf x k).symm
theorem We{w:World}:∀{xs ys:List RefL} {ks:List Int},NsAt w (xs++ys) ks→∃k1 k2,NsAt w xs k1∧NsAt w ys k2
 | [],_,ks,h=>⟨[],ks,trivial,h⟩
 | x::xs,_,[],h=>h.elim
 | x::xs,ys,k::ks,⟨h1,h2⟩=>by
  obtain ⟨k1,k2,h3,h4⟩:=We h2;exact ⟨k::k1,k2,⟨h1,h3⟩,h4⟩
def wkC(s:Ls)(ra a0 a1 a2 a3:Option Addr)(rc c0 c1 c2 c3 n:Nat):Array Value:=#[int i64 s.wd,int i64 s.dp,int i64 (mkA s.t0 s.t1),int i64 (mkB s.t0 s.t1),int i64 (mkC s.t0 s.t1),.slice ra s.roles.length rc,int i64 s.bars,.slice a0 s.tempos.length c0,.slice a1 s.pauses.length c1,.slice a2 s.spans.length c2,.slice a3 n c3]
theorem Wv(s:Ls)(ns:List Int)(w:World)(hA:s.At w)(hN:NsAt w s.refs ns)(he:Env w):Calls Tryz.prog 11 #[s.val] w λe w'=>Below w.heap.size w w' ∧
  ((∃k:Int,k≠0∧((Bc s ns≠0∧k=Bc s ns)∨s.roles=[]∨4096<(Fk s).length)∧e=.returned (.tuple #[.agg wkZ,int i64 k])) ∨
  (Bc s ns=0∧s.roles≠[]∧(Fk s).length≤4096∧∃(ra a0 a1 a2 a3:Option Addr) (rc c0 c1 c2 c3:Nat),e=.returned (.tuple #[.agg (wkC s ra a0 a1 a2 a3 rc c0 c1 c2 c3 (DP s).length),int i64 0])∧IsRow Ay 14 w' (.slice a3 (DP s).length c3) (DP s))):=by
 by_cases hs:Bc s ns=0
 ·by_cases hr:s.roles=[]
  ·refine (KJ s ns w hA hN he hs hr).mono ?_
   rintro e w' ⟨rfl,hb⟩;exact ⟨hb,Or.inl ⟨190,by decide,Or.inr (Or.inl hr),rfl⟩⟩
  ·refine (M7 s ns w hA hN he hs hr).mono ?_
   rintro e w' ⟨hb,h⟩;refine ⟨hb,?_⟩;rcases h with ⟨h,rfl⟩|⟨h,ra,a0,a1,a2,a3,rc,c0,c1,c2,c3,rfl,_,_,_,_,h5⟩
   ·exact Or.inl ⟨2,by decide,Or.inr (Or.inr h),rfl⟩
   ·exact Or.inr ⟨hs,hr,h,ra,a0,a1,a2,a3,rc,c0,c1,c2,c3,rfl,h5.1⟩
 ·refine (M9 s ns _ w hA hN he rfl hs).mono ?_
  rintro e w' ⟨rfl,hb⟩;exact ⟨hb,Or.inl ⟨_,hs,Or.inl ⟨hs,rfl⟩,rfl⟩⟩
def Dan.flip(d:Dan):Dan:={ d with mirror:=!d.mirror }
def Sgn.mir(x:Sgn):Sgn:={ x with side:=if x.side=0 then 0 else 3-x.side,dir:=NY x.dir,size:=if x.kind=6 then 8-x.size else x.size }
def Ls.flipD(s:Ls)(a:Option Addr)(c:Nat):Ls:={ s with da:=a,dc:=c,dances:=s.dances.map Dan.flip }
theorem Ww(s:Ls)(a:Option Addr)(c:Nat)(ns:List Int):Dd (s.flipD a c).strip ns=Dd s.strip ns:=by
 have hr:(s.flipD a c).strip.refs=s.strip.refs:=by
  unfold Sc.refs;simp only [Ls.strip,Ls.flipD,List.flatMap_map]
  rfl
 have hl:(s.flipD a c).strip.lims=s.strip.lims:=by
  unfold Sc.lims Sc.fit;simp only [Ls.strip,Ls.flipD,List.length_map]
  rfl
 have hi:(s.flipD a c).strip.idx ns=s.strip.idx ns:=by
  unfold Sc.idx;rw [hr]
  rfl
 unfold Dd Db;rw [hl,hi]
 rfl
theorem Wi(s:Ls)(a:Option Addr)(c:Nat)(ns:List Int):Bc (s.flipD a c) ns=Bc s ns:=by
 have hL:Iy (s.flipD a c) (AI (s.flipD a c).strip)=Iy s (AI s.strip):=by
  unfold Iy;simp only [Ls.flipD,List.all_map]
  rfl
 unfold Bc;rw [Ww,hL]
theorem Wl{m:Mov}(h:Cs m=true):(0≤m.side∧m.side≤2)∧(0≤m.dir∧m.dir≤8):=by
 unfold Cs Mi at h;simp only [Bool.and_eq_true] at h;obtain ⟨⟨h1,_⟩,h2,_⟩:=h;rcases MF h1 with e|e|e|e|e|e|e|e|e<;>rw [e] at h2<;>simp [Rt,Dw,suitTab,I7,inB] at h2<;>omega
theorem Wd{d:Int}(h:0≤d∧d≤8):0≤NY d∧NY d≤8:=by
 unfold NY;rw [if_pos (AM.2 h)]
 split<;>omega
theorem Wp{d:Int}(h:0≤d∧d≤8):NY (NY d)=d:=by
 have h2:=Wd h;have e:NY d=if d≤1 then d else 10-d:=by unfold NY;rw [if_pos (AM.2 h)]
 unfold NY at *;rw [if_pos (AM.2 h)] at h2 ⊢;rw [if_pos (AM.2 h2)]
 (split<;>(try split))<;>omega
theorem Wx{m:Mov}(h:Cs m=true)(n:Int)(b:Bool):Ow m n (!b)=(Ow m n b).mir:=by
 obtain ⟨hs,hd⟩:=Wl h;have h0:m.side=0∨m.side=1∨m.side=2:=by omega
 cases b
 ·unfold Ow Sgn.mir
  simp only [Bool.not_false,if_true,Bool.false_eq_true,if_false,Sgn.mk.injEq,true_and,and_true];refine ⟨?_,?_⟩
  ·unfold Gl;rcases h0 with e|e|e<;>rw [e]<;>rfl
  ·rfl
 ·unfold Ow Sgn.mir
  simp only [Bool.not_true,if_true,Bool.false_eq_true,if_false,Sgn.mk.injEq,true_and,and_true];refine ⟨?_,(Wp hd).symm,?_⟩
  ·unfold Gl;rcases h0 with e|e|e<;>rw [e]<;>rfl
  ·unfold Jm;split<;>omega
theorem VV(g:Nm→Int)(rl:Int):∀(tt:Int) (l:List BarR),(∀y∈l,y.ms.all Cs=true)→Bh g rl tt (AA true l)=(Bh g rl tt l).map Sgn.mir
 | _,[],_=>rfl
 | tt,y::r,h=>by
  have e:AA true (y::r)={ y with mir:=y.mir ^^ true }::AA true r:=rfl;rw [e,Bh,Bh,List.map_append,VV g rl (tt+1) r (λz hz=>h z (by simp [hz]))]
  congr 1
  unfold sgs;rw [List.map_map];refine List.map_congr_left λm hm=>?_
  have hm:=List.all_eq_true.1 (h y (by simp)) m hm;have:=Wx hm (g m.wn) y.mir;unfold Lb;simp only [Bool.xor_true,Function.comp];rw [this]
  rfl
theorem VY{f:Nm→Int}{F:Int→List BarR}(hF:∀k,∀y∈F k,y.ms.all Cs=true):∀(T:Lt),T.strip.exB=true→∀y∈T.bars f F,y.ms.all Cs=true
 | .nil,_,y,hy=>by cases hy
 | .cons k n un ia ic its ma mc ms r,hx,y,hy=>by
  have hA:(Its.cons k n un its.strip ms r.strip).exB=true:=hx;obtain ⟨_,hi,hC⟩:=Its.exB_parts hA
  have hD:ms.all Cs=true:=by
   simp only [Its.exB,Bool.and_eq_true] at hA;exact hA.2.2.2.1.1
  have hB:=VY (f:=f) hF its hi;simp only [Lt.bars,List.mem_append] at hy;rcases hy with hy|hy
  ·unfold itB at hy
   split at hy
   ·rcases List.mem_cons.1 hy with rfl|hy
    ·exact hD
    ·cases hy
   ·split at hy
    ·exact hB y (Na hy)
    ·split at hy
     ·obtain ⟨z,hz,rfl⟩:=List.mem_map.1 hy
      exact hB z hz
     ·split at hy
      ·exact hF _ y hy
      ·cases hy
  ·exact VY (f:=f) hF r hC y hy
theorem VX{s:Ls}{f:Nm→Int}(hx:∀p∈s.phrases,p.its.strip.exB=true):∀(d:Nat) (k:Int),∀y∈JC s.ltsL f d k,y.ms.all Cs=true
 | 0,_,y,hy=>by cases hy
 | d+1,k,y,hy=>by
  unfold JC at hy
  split at hy
  ·cases ht:s.ltsL[k.toNat]? with
   | none=>rw [ht] at hy;cases hy
   | some t =>
    rw [ht] at hy;obtain ⟨p,hp,rfl⟩:=List.mem_map.1 (List.mem_of_getElem? ht);exact VY (VX hx d) p.its (hx p hp) y hy
  ·cases hy
theorem Wm{s:Ls}{ns:List Int}(h:Bc s ns=0):∀p∈s.phrases,p.its.strip.exB=true:=by
 have hL:=(Le h).2;unfold Iy at hL;simp only [Bool.and_eq_true] at hL;exact List.all_eq_true.1 hL.2.2.2.2.1
theorem Wc{α β:Type}{f g:α→List β}(h:∀x,f x=g x){l:List α}:l.flatMap f=l.flatMap g:=by rw [funext h]
theorem Wg{s:Ls}{ns:List Int}(h:Bc s ns=0)(a:Option Addr)(c:Nat):Fk (s.flipD a c)=(Fk s).map Sgn.mir:=by
 have hA:=λk=>VX (f:=AI s.strip) (Wm h) s.ltsL.length k
 unfold Fk;rw [List.map_flatMap,List.flatMap_map,show (s.flipD a c).dances=s.dances.map Dan.flip from rfl,List.flatMap_map,List.flatMap_map];refine Wc λd=>?_
 have e:(NB (s.flipD a c) d.flip).sgs (I8 s.strip) (JB s.ltsL (AI s.strip))=Bh (I8 s.strip) (I8 s.strip d.rn) d.bar (AA (!d.mirror) (JB s.ltsL (AI s.strip) (s.strip.pnames.idxOf d.pn:Nat))):=rfl;have e2:(NB s d).sgs (I8 s.strip) (JB s.ltsL (AI s.strip))=Bh (I8 s.strip) (I8 s.strip d.rn) d.bar (AA d.mirror (JB s.ltsL (AI s.strip) (s.strip.pnames.idxOf d.pn:Nat))):=rfl;have e3:=Mc d.mirror true (JB s.ltsL (AI s.strip) (s.strip.pnames.idxOf d.pn:Nat));rw [Bool.xor_true] at e3
 have e4:=VV (I8 s.strip) (I8 s.strip d.rn) d.bar (AA d.mirror (JB s.ltsL (AI s.strip) (s.strip.pnames.idxOf d.pn:Nat))) (λy hy=>by
  obtain ⟨z,hz,rfl⟩:=List.mem_map.1 hy
  exact hA _ z hz)
 rw [e3] at e4;exact e.trans (e4.trans (congrArg _ e2.symm))
theorem Wo{f:Sgn→Sgn}(hf:∀x,(f x).bar=x.bar)(n:Nat)(R:List Sgn):IT n (R.map f)=(IT n R).map f:=by
 unfold IT;rw [List.map_flatMap];refine Wc λb=>?_
 rw [List.filter_map];refine congrArg _ (List.filter_congr λx _=>?_);simp only [Function.comp,hf]
theorem Wj{s:Ls}{ns:List Int}(h:Bc s ns=0)(a:Option Addr)(c:Nat):DP (s.flipD a c)=(DP s).map Sgn.mir:=by
 unfold DP;rw [Wg h,show (s.flipD a c).bars=s.bars from rfl,Wo (f:=Sgn.mir) (λ_=>rfl),Wf Sgn.mir (λ_ _=>rfl)]
def Wh(x:Sgn):Prop:=(0≤x.side∧x.side≤2)∧(0≤x.dir∧x.dir≤8)∧(-8≤x.size∧x.size≤16)
theorem Wz{m:Mov}(h:Cs m=true)(n:Int)(b:Bool)(rl tt:Int):Wh (Lb m n b rl tt):=by
 obtain ⟨hs,hd⟩:=Wl h;have hz:=Qa h;have h1:=Wd hd;unfold Wh Lb Ow;cases b
 ·simp only [Bool.false_eq_true,if_false];omega
 ·simp only [if_true]
  refine ⟨?_,h1,?_⟩
  ·unfold Gl;split<;>(try split)<;>omega
  ·unfold Jm;split<;>omega
theorem Ws{s:Ls}{ns:List Int}(h:Bc s ns=0):∀x∈DP s,Wh x:=by
 have hA:=λk=>VX (f:=AI s.strip) (Wm h) s.ltsL.length k
 have key:∀(k:Int) (l:List Sgn),(∀x∈l,Wh x)→∀x∈Qd k l,Wh x:=by
  intro k l
  induction l generalizing k with
  | nil=>intro _ x hx;cases hx
  | cons y r ih =>
   intro hl x hx;rw [Qd] at hx;rcases List.mem_cons.1 hx with rfl|hx
   ·exact hl y (by simp)
   ·exact ih (k+1) (λz hz=>hl z (by simp [hz])) x hx
 have hb:∀(g:Nm→Int) (rl tt:Int) (l:List BarR),(∀y∈l,y.ms.all Cs=true)→∀x∈Bh g rl tt l,Wh x:=by
  intro g rl tt l
  induction l generalizing tt with
  | nil=>intro _ x hx;cases hx
  | cons y r ih =>
   intro hl x hx;rw [Bh] at hx;rcases List.mem_append.1 hx with hx|hx
   ·unfold sgs at hx
    obtain ⟨m,hm,rfl⟩:=List.mem_map.1 hx;exact Wz (List.all_eq_true.1 (hl y (by simp)) m hm) _ _ _ _
   ·exact ih (tt+1) (λz hz=>hl z (by simp [hz])) x hx
 refine key _ _ λx hx=>?_
 unfold IT at hx;obtain ⟨b,_,hx⟩:=List.mem_flatMap.1 hx;have hx:=(List.mem_filter.1 hx).1;unfold Fk at hx;obtain ⟨y,hy,hx⟩:=List.mem_flatMap.1 hx;obtain ⟨d,_,rfl⟩:=List.mem_map.1 hy
 exact hb _ _ _ _ (λy hy=>by
  obtain ⟨z,hz,rfl⟩:=List.mem_map.1 hy
  exact hA _ z hz) x hx
end
end Go.Proofs.YtbkemlgfdklpfaaGreatDoor
