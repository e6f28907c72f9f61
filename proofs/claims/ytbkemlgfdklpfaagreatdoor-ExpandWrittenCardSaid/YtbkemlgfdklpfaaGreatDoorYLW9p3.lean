/- The walk of the statement: part 3. -/
import Derived.Test.YtbkemlgfdklpfaaGreatDoorZ40
import Derived.Test.YtbkemlgfdklpfaaGreatDoorYLW9p2
import Derived.Test.YtbkemlgfdklpfaaGreatDoorYLW9p1
import Derived.Test.YtbkemlgfdklpfaaGreatDoorZ41
import Derived.Test.YtbkemlgfdklpfaaGreatDoorZ39
import Derived.Deep.MidRow
import Derived.Test.YtbkemlgfdklpfaaGreatDoorZ4
set_option linter.unusedVariables false
set_option linter.unusedSimpArgs false
set_option maxRecDepth 100000
set_option maxHeartbeats 16000000
namespace Go.Proofs.YtbkemlgfdklpfaaGreatDoor
open Go.Value (int)
open Go.IntKind (i64)
section
open Go Go.RowKit Go.Shelf Go.Deep
theorem Xj{w:World}:∀{xs ys:List RefL} {ks:List Int},NsAt w (xs++ys) ks→∃k1 k2,NsAt w xs k1∧NsAt w ys k2
 | [],_,ks,h=>⟨[],ks,trivial,h⟩
 | x::xs,_,[],h=>h.elim
 | x::xs,ys,k::ks,⟨h1,h2⟩=>by
  obtain ⟨k1,k2,h3,h4⟩:=Xj h2;exact ⟨k::k1,k2,⟨h1,h3⟩,h4⟩
def wkC(s:Ls)(ra a0 a1 a2 a3:Option Addr)(rc c0 c1 c2 c3 n:Nat):Array Value:=#[int i64 s.wd,int i64 s.dp,int i64 (mkA s.t0 s.t1),int i64 (mkB s.t0 s.t1),int i64 (mkC s.t0 s.t1),.slice ra s.roles.length rc,int i64 s.bars,.slice a0 s.tempos.length c0,.slice a1 s.pauses.length c1,.slice a2 s.spans.length c2,.slice a3 n c3]
theorem XF(s:Ls)(ns:List Int)(w:World)(hA:s.At w)(hN:NsAt w s.refs ns)(he:Env w):Calls Tryz.prog 11 #[s.val] w λe w'=>Below w.heap.size w w' ∧
  ((∃k:Int,k≠0∧((Bc s ns≠0∧k=Bc s ns)∨s.roles=[]∨4096<(Fk s).length)∧e=.returned (.tuple #[.agg wkZ,int i64 k])) ∨
  (Bc s ns=0∧s.roles≠[]∧(Fk s).length≤4096∧∃(ra a0 a1 a2 a3:Option Addr) (rc c0 c1 c2 c3:Nat),e=.returned (.tuple #[.agg (wkC s ra a0 a1 a2 a3 rc c0 c1 c2 c3 (DP s).length),int i64 0])∧IsRow Ay 14 w' (.slice a3 (DP s).length c3) (DP s))):=by
 by_cases hs:Bc s ns=0
 ·by_cases hr:s.roles=[]
  ·refine (KJ s ns w hA hN he hs hr).mono ?_
   rintro e w' ⟨rfl,hb⟩;exact ⟨hb,Or.inl ⟨190,by decide,Or.inr (Or.inl hr),rfl⟩⟩
  ·refine (M7 s ns w hA hN he hs hr).mono ?_
   rintro e w' ⟨hb,h⟩;refine ⟨hb,?_⟩;rcases h with ⟨h,rfl⟩|⟨h,ra,a0,a1,a2,a3,rc,c0,c1,c2,c3,rfl,_,_,_,_,h5⟩
   ·exact Or.inl ⟨2,by decide,Or.inr (Or.inr h),rfl⟩
   ·exact Or.inr ⟨hs,hr,h,ra,a0,a1,a2,a3,rc,c0,c1,c2,c3,rfl,h5.1⟩
 ·refine (M9 s ns _ w hA hN he rfl hs).mono ?_
  rintro e w' ⟨rfl,hb⟩;exact ⟨hb,Or.inl ⟨_,hs,Or.inl ⟨hs,rfl⟩,rfl⟩⟩
theorem Wo{f:Nm→Int}{F:Int→List BarR}(hF:∀k,∀y∈F k,y.ms.all Cs=true):∀(T:Lt),T.strip.exB=true→∀y∈T.bars f F,y.ms.all Cs=true
 | .nil,_,y,hy=>by cases hy
 | .cons k n un ia ic its ma mc ms r,hx,y,hy=>by
  have hA:(Its.cons k n un its.strip ms r.strip).exB=true:=hx;obtain ⟨_,hi,hC⟩:=Its.exB_parts hA
  have hD:ms.all Cs=true:=by
   simp only [Its.exB,Bool.and_eq_true] at hA;exact hA.2.2.2.1.1
  have hB:=Wo (f:=f) hF its hi;simp only [Lt.bars,List.mem_append] at hy;rcases hy with hy|hy
  ·unfold itB at hy
   split at hy
   ·rcases List.mem_cons.1 hy with rfl|hy
    ·exact hD
    ·cases hy
   ·split at hy
    ·exact hB y (Na hy)
    ·split at hy
     ·obtain ⟨z,hz,rfl⟩:=List.mem_map.1 hy
      exact hB z hz
     ·split at hy
      ·exact hF _ y hy
      ·cases hy
  ·exact Wo (f:=f) hF r hC y hy
theorem WK{s:Ls}{f:Nm→Int}(hx:∀p∈s.phrases,p.its.strip.exB=true):∀(d:Nat) (k:Int),∀y∈JC s.ltsL f d k,y.ms.all Cs=true
 | 0,_,y,hy=>by cases hy
 | d+1,k,y,hy=>by
  unfold JC at hy
  split at hy
  ·cases ht:s.ltsL[k.toNat]? with
   | none=>rw [ht] at hy;cases hy
   | some t =>
    rw [ht] at hy;obtain ⟨p,hp,rfl⟩:=List.mem_map.1 (List.mem_of_getElem? ht);exact Wo (WK hx d) p.its (hx p hp) y hy
  ·cases hy
theorem Xr{s:Ls}{ns:List Int}(h:Bc s ns=0):∀p∈s.phrases,p.its.strip.exB=true:=by
 have hL:=(Le h).2;unfold Iy at hL;simp only [Bool.and_eq_true] at hL;exact List.all_eq_true.1 hL.2.2.2.2.1
structure XG where
 mir:Bool
 G:Nat
 ia:Option Addr
 ic:Nat
 ma:Option Addr
 mc:Nat
 ms:List Mov
def XG.bar(x:XG):BarR:=⟨x.ma,x.mc,x.ms,x.mir⟩
def XG.one(x:XG)(r:Lt):Lt:=.cons 1 0 [] x.ia x.ic .nil x.ma x.mc x.ms r
def XG.put(x:XG)(r:Lt):Lt:=if x.mir then .cons 3 0 [] (some ⟨x.G,0,none⟩) 1 (x.one .nil) none 0 [] r else x.one r
def VZ:List XG→Lt
 | []=>.nil
 | x::r=>x.put (VZ r)
theorem WH:∀L:List XG,(VZ L).len=L.length
 | []=>rfl
 | x::r=>by
  unfold VZ XG.put XG.one
  split<;>simp [Lt.len,WH r]
theorem WG(f:Nm→Int)(F:Int→List BarR):∀L:List XG,(VZ L).bars f F=L.map XG.bar
 | []=>rfl
 | x::r=>by
  unfold VZ XG.put XG.one;cases hm:x.mir
  ·simp [Lt.bars,itB,WG f F r,XG.bar,hm]
  ·simp [Lt.bars,itB,AA,WG f F r,XG.bar,hm]
theorem WI(f:Nm→Int):∀L:List XG,(VZ L).strip.uses f=[]
 | []=>rfl
 | x::r=>by
  unfold VZ XG.put XG.one
  split<;>simp [Lt.strip,Its.uses,WI f r]
theorem Xi:∀L:List XG,(∀x∈L,x.ms.all Cs=true)→(VZ L).strip.exB=true
 | [],_=>rfl
 | x::r,h=>by
  have ih:=Xi r λy hy=>h y (by simp [hy])
  have hx:=h x (by simp);unfold VZ XG.put XG.one
  split
  ·simp [Lt.strip,Its.exB,EA,Its.len,ih,hx]
  ·simp [Lt.strip,Its.exB,EA,Its.len,ih,hx]
theorem WR:∀L:List XG,(∀x∈L,x.ms.all DW=true)→(VZ L).strip.kinds=true
 | [],_=>rfl
 | x::r,h=>by
  have ih:=WR r λy hy=>h y (by simp [hy])
  have hx:=h x (by simp);unfold VZ XG.put XG.one
  split
  ·simp only [Lt.strip,Its.kinds,ih,hx];rfl
  ·simp only [Lt.strip,Its.kinds,ih,hx];rfl
theorem Wr(d:Nat)(hd:d+1≤16):∀(L:List XG) (left:Int),(∀x∈L,x.ms.length≤64)→(L.length:Int)≤left→∃l,(VZ L).strip.count d left=some l∧left-L.length≤l
 | [],left,_,_=>⟨left,rfl,by simp⟩
 | x::r,left,h,hl=>by
  have hx:=h x (by simp);simp only [List.length_cons] at hl ⊢;unfold VZ XG.put XG.one
  split
  ·obtain ⟨l,h1,h2⟩:=Wr d hd r (left-1) (λy hy=>h y (by simp [hy])) (by omega)
   refine ⟨l,?_,by omega⟩
   have e:(Its.cons 1 0 [] Its.nil x.ms Its.nil).count (d+1) (left-1)=some (left-1):=by
    unfold Its.count;rw [if_pos ⟨hx,by simp [Its.len];omega,Or.inl rfl⟩];simp [Its.count,Its.len]
   simp only [Lt.strip];unfold Its.count;rw [if_pos ⟨by simp,by simp [Its.len];omega,Or.inr hd⟩];simp only [Its.len,Nat.zero_add,Int.natCast_one];rw [e];exact h1
  ·obtain ⟨l,h1,h2⟩:=Wr d hd r left (λy hy=>h y (by simp [hy])) (by omega)
   refine ⟨l,?_,by omega⟩;simp only [Lt.strip];unfold Its.count;rw [if_pos ⟨hx,by simp [Its.len];omega,Or.inl rfl⟩];simp only [Its.len,Its.count,Int.natCast_zero,Int.sub_zero];exact h1
structure PhF where
 ia:Option Addr
 ic:Nat
 L:List XG
def VV:List Ph→List PhF→List Ph
 | [],_=>[]
 | p::r,[]=>p::r
 | p::r,q::qs=>⟨p.name,q.ia,q.ic,VZ q.L⟩::VV r qs
def Ls.flatL(s:Ls)(a:Option Addr)(c:Nat)(qs:List PhF):Ls:={ s with fa:=a,fc:=c,phrases:=VV s.phrases qs }
theorem VU:∀(ps:List Ph) (qs:List PhF),(VV ps qs).length=ps.length
 | [],_=>rfl
 | _::_,[]=>rfl
 | p::r,q::qs=>by simp [VV,VU r qs]
theorem Wl:∀(ps:List Ph) (qs:List PhF),(VV ps qs).map Ph.name=ps.map Ph.name
 | [],_=>rfl
 | _::_,[]=>rfl
 | p::r,q::qs=>by simp [VV,Wl r qs]
theorem We:∀(ps:List Ph) (qs:List PhF) (i:Nat) (p:Ph) (q:PhF),ps[i]?=some p→qs[i]?=some q→(VV ps qs)[i]?=some ⟨p.name,q.ia,q.ic,VZ q.L⟩
 | [],_,_,_,_,h,_=>by simp at h
 | _::_,[],_,_,_,_,h=>by simp at h
 | p::r,q::qs,0,_,_,h,h2=>by simp at h h2;subst h h2;rfl
 | p::r,q::qs,i+1,p',q',h,h2=>by
  have:=We r qs i p' q' (by simpa using h) (by simpa using h2);simpa [VV] using this
theorem WW{ps:List Ph}{qs:List PhF}(hl:qs.length=ps.length){x:Ph}(h:x∈VV ps qs):∃(i:Nat) (p:Ph) (q:PhF),ps[i]?=some p∧qs[i]?=some q∧x=⟨p.name,q.ia,q.ic,VZ q.L⟩:=by
 obtain ⟨i,hi⟩:=List.getElem?_of_mem h;have h1:=(ql.1 hi).1;rw [VU] at h1;obtain ⟨p,hp⟩:∃p,ps[i]?=some p:=⟨_,qg h1⟩;obtain ⟨q,hq⟩:∃q,qs[i]?=some q:=⟨_,qg (by omega)⟩;have:=We ps qs i p q hp hq;rw [hi] at this;exact ⟨i,p,q,hp,hq,Option.some.inj this⟩
def Wd:List PhF→Nat
 | []=>0
 | q::r=>q.L.length+Wd r
theorem Wz:∀(ps:List Ph) (qs:List PhF) (left:Int),qs.length=ps.length→(∀q∈qs,∀x∈q.L,x.ms.length≤64)→(2*Wd qs:Nat)≤left→(countP ((VV ps qs).map Ph.strip) left).isSome=true
 | [],[],_,_,_,_=>rfl
 | p::r,q::qs,left,hl,hm,hs=>by
  simp only [Wd] at hs;obtain ⟨l,h1,h2⟩:=Wr 1 (by decide) q.L (left-q.L.length) (hm q (by simp)) (by omega)
  have e:(VZ q.L).strip.countL 1 left=some l:=by
   unfold Its.countL;rw [Lt.strip_len,WH,if_pos ⟨by omega,Or.inr (by decide)⟩];exact h1
  simp only [VV,List.map_cons,countP,Ph.strip];rw [e];exact Wz r qs l (by simpa using hl) (λq hq=>hm q (by simp [hq])) (by omega)
theorem Xo{kss:List (List Int)}(h:∀j,kss.getD j []=[])(i:Int):∀m x,AS kss i m x=none:=by
 have hJ:∀(nn:Int) (n:Nat),Ez kss i nn (λ_=>none) n=λ_=>none:=by
  intro nn n
  induction n with
  | zero=>rfl
  | succ n ih =>
   unfold Ez;rw [ih];unfold EP;rw [h]
   rfl
 intro m
 induction m with
 | zero=>intro x;rfl
 | succ m ih =>
  intro x;have e:AS kss i m=λ_=>none:=funext ih
  unfold AS;rw [e,hJ]
theorem Xl{kss:List (List Int)}(h:∀j,kss.getD j []=[]):BG kss=[] :=
 Mr λi _=>by unfold Dy;rw [Xo h];rfl
def feI(x:XG):List Value:=[int i64 1,int i64 0,sv [],int i64 0,.slice x.ia 0 x.ic,.slice x.ma x.ms.length x.mc]
def feC(x:XG):List Value:=if x.mir then [int i64 3,int i64 0,sv [],int i64 0,.slice (some ⟨x.G,0,none⟩) 1 1,.slice none 0 0] else feI x
structure FEok(s:Sc)(W:World)(x:XG):Prop where
 ok:x.ms.all Cs=true
 kinds:x.ms.all DW=true
 few:x.ms.length≤64
 form:x.ms=[]∨x.ma=some ⟨blk x.ma,off x.ma,none⟩
 at_:B6 W (blk x.ma) (off x.ma) x.ms
 good:∀r∈As (blk x.ma) (off x.ma) x.ms,Ga s W r
 box:x.mir=true→W.rangeAt x.G 0 (feI x)
theorem AtRow.tail{α:Type}{enc:α→List Value}{k:Nat}{w:World}{b o:Nat}{x:α}{r:List α}(h:AtRow enc k w b o (x::r)):AtRow enc k w b (o+k) r:=λi y hy j v hv=>by
 have:=h (i+1) y (by simpa using hy) j v hv;rw [show o+(i+1)*k+j=o+k+i*k+j by rw [Nat.add_mul,Nat.one_mul];omega] at this;exact this
theorem Wm(x:XG):(feC x).length=6:=by unfold feC;split<;>rfl
theorem Xa{n:Nat}(h:n≤64):n≤maxLen:=Nat.le_trans h (by decide)
theorem Xh{s:Sc}{W:World}{b:Nat}:∀{o:Nat} {L:List XG},AtRow feC 6 W b o L→(∀x∈L,FEok s W x)→(VZ L).At W b o∧∀r∈(VZ L).refsL b o,Ga s W r
 | _,[],_,_=>⟨trivial,λr hr=>by cases hr⟩
 | o,x::r,h,hx=>by
  obtain ⟨ih1,ih2⟩:=Xh h.tail λy hy=>hx y (by simp [hy])
  have hk:=hx x (by simp)
  have h0:∀(j:Nat) (v:Value),(feC x)[j]?=some v→W.cell? ⟨b,o+j,none⟩=some v:=λj v hv=>by
   have:=h 0 x rfl j v hv
   rwa [Nat.zero_mul,Nat.add_zero] at this
  have g0:∀(bb oo:Nat),W.cell? ⟨bb,oo+3,none⟩=some (int i64 0)→Ga s W ⟨bb,oo+2,0,[]⟩:=λbb oo hc=>⟨0,hc,rfl⟩
  have hA:=Xa hk.few;unfold VZ XG.put XG.one;cases hm:x.mir
  ·have hc:feC x=feI x:=by unfold feC;rw [hm];rfl
   rw [hc] at h0;have a0:=h0 0 _ rfl;have a1:=h0 1 _ rfl;have a2:=h0 2 _ rfl;have a3:=h0 3 _ rfl;have a4:=h0 4 _ rfl;have a5:=h0 5 _ rfl;simp only [Bool.false_eq_true,if_false];refine ⟨⟨⟨a0,a1,a2,a4,a5⟩,⟨hk.form,hA,hk.at_⟩,⟨Or.inl rfl,Nat.zero_le _,trivial⟩,ih1⟩,λy hy=>?_⟩;simp only [Lt.refsL,List.mem_cons,List.mem_append,List.not_mem_nil,false_or] at hy;rcases hy with rfl|hy|hy
   ·exact g0 b o a3
   ·exact hk.good y hy
   ·exact ih2 y hy
  ·have hc:feC x=[int i64 3,int i64 0,sv [],int i64 0,.slice (some ⟨x.G,0,none⟩) 1 1,.slice none 0 0]:=by unfold feC;rw [hm];rfl
   rw [hc] at h0;have a0:=h0 0 _ rfl;have a1:=h0 1 _ rfl;have a2:=h0 2 _ rfl;have a3:=h0 3 _ rfl;have a4:=h0 4 _ rfl;have a5:=h0 5 _ rfl;have hB:=hk.box hm;have c0:=hB 0 _ rfl;have c1:=hB 1 _ rfl;have c2:=hB 2 _ rfl;have c3:=hB 3 _ rfl;have c4:=hB 4 _ rfl;have c5:=hB 5 _ rfl;simp only [if_true];refine ⟨⟨⟨a0,a1,a2,a4,a5⟩,⟨Or.inl rfl,Nat.zero_le _,trivial⟩,⟨Or.inr rfl,(show 1≤maxLen by decide),⟨c0,c1,c2,c4,c5⟩,⟨hk.form,hA,hk.at_⟩,⟨Or.inl rfl,Nat.zero_le _,trivial⟩,trivial⟩,ih1⟩,λy hy=>?_⟩;simp only [Lt.refsL,As,List.mem_cons,List.mem_append,List.not_mem_nil,false_or,or_false,List.nil_append] at hy;rcases hy with rfl|(rfl|hy)|hy
   ·exact g0 b o a3
   ·exact g0 x.G 0 c3
   ·exact hk.good y hy
   ·exact ih2 y hy
theorem X5{s:Sc}{W:World}:∀{xs:List RefL},(∀x∈xs,Ga s W x)→∃ns,NsAt W xs ns∧Aw s.rnames s.pnames (xs.map RefL.key) ns=some ns
 | [],_=>⟨[],trivial,rfl⟩
 | x::xs,h=>by
  obtain ⟨n,h1,h2⟩:=h x (by simp);obtain ⟨ns,h3,h4⟩:=X5 (xs:=xs) λy hy=>h y (by simp [hy])
  refine ⟨n::ns,⟨h1,h3⟩,?_⟩;simp only [List.map_cons,Aw];rw [h2,h4]
def Wc(p:Ph):List Value:=[sv p.name,p.val]
theorem X7{W:World}{b:Nat}:∀{o:Nat} {ps:List Ph},AtRow Wc 2 W b o ps→(∀p∈ps,p.Its W)→Be W b o ps
 | _,[],_,_=>trivial
 | o,p::r,h,hp=>by
  have h0:=h 0 p rfl 0 _ rfl;have h1:=h 0 p rfl 1 _ rfl;rw [Nat.zero_mul,Nat.add_zero] at h0 h1;exact ⟨⟨h0,h1,hp p (by simp)⟩,X7 h.tail λq hq=>hp q (by simp [hq])⟩
theorem Wu{x:RefL}:∀{ps:List Ph},x∈Ap ps→∃p∈ps,x∈p.refsL
 | [],h=>by cases h
 | p::r,h=>by
  rcases List.mem_append.1 h with h|h
  ·exact ⟨p,by simp,h⟩
  ·obtain ⟨q,hq,hx⟩:=Wu h
   exact ⟨q,by simp [hq],hx⟩
theorem Xu{α β:Type}{f g:α→List β}{l:List α}(h:∀x∈l,f x=g x):l.flatMap f=l.flatMap g:=by
 induction l with
 | nil=>rfl
 | cons a r ih =>
  rw [List.flatMap_cons,List.flatMap_cons,h a (by simp),ih λx hx=>h x (by simp [hx])]
structure FlatQ(s:Ls)(W:World)(qs:List PhF):Prop where
 len:qs.length=s.phrases.length
 sum:Wd qs≤2048
 row:∀(i:Nat) (q:PhF),qs[i]?=some q→(q.L=[]∨q.ia=some ⟨blk q.ia,off q.ia,none⟩)∧q.L.length≤maxLen∧AtRow feC 6 W (blk q.ia) (off q.ia) q.L∧(∀x∈q.L,FEok s.strip W x)∧q.L.map XG.bar=JB s.ltsL (AI s.strip) i
theorem Xp{s:Ls}{ns:List Int}{w W:World}{qs:List PhF}{a:Option Addr}{c:Nat}(hA:s.At w)(hN:NsAt w s.refs ns)(hs:Bc s ns=0)(hb:Below w.heap.size w W)(hq:FlatQ s W qs)(ha:s.phrases=[]∨a=some ⟨blk a,off a,none⟩)(hJ:AtRow Wc 2 W (blk a) (off a) (VV s.phrases qs)) :
  ∃ms,(s.flatL a c qs).At W∧NsAt W (s.flatL a c qs).refs ms∧Bc (s.flatL a c qs) ms=0∧Fk (s.flatL a c qs)=Fk s:=by
 have hA:=hA.below hb;have hN:=hN.below hb;obtain ⟨hc,hL⟩:=Le hs;obtain ⟨h1,h2,h3,h4,h5⟩:=E9 hc;rw [← s.refs_key] at h5;have hg:∀x∈s.refs,Ga s.strip W x:=MX hN h5
 have hE:(s.flatL a c qs).strip.pnames=s.strip.pnames:=by
  have e1:(s.flatL a c qs).strip.pnames=(VV s.phrases qs).map Ph.name:=by simp [Sc.pnames,Ls.strip,Ls.flatL,Ph.strip,List.map_map,Function.comp]
  have e2:s.strip.pnames=s.phrases.map Ph.name:=by simp [Sc.pnames,Ls.strip,Ph.strip,List.map_map,Function.comp]
  rw [e1,e2,Wl]
 have hK:(s.flatL a c qs).strip.rnames=s.strip.rnames:=rfl;have hD:∀x∈VV s.phrases qs,∃(i:Nat) (p:Ph) (q:PhF),s.phrases[i]?=some p∧qs[i]?=some q∧x=⟨p.name,q.ia,q.ic,VZ q.L⟩:=λx hx=>WW hq.len hx
 have hW:(s.flatL a c qs).At W:=by
  refine ⟨hA.roles,hA.tempos,hA.pauses,hA.spans,?_,?_,X7 hJ λx hx=>?_,hA.dform,hA.dlen,hA.dances⟩
  ·rcases ha with h|h
   ·left
    show VV s.phrases qs=[]
    rw [h];rfl
   ·exact Or.inr h
  ·show (VV s.phrases qs).length≤maxLen
   rw [VU];exact hA.plen
  ·obtain ⟨i,p,q,hp,hC,rfl⟩:=hD x hx
   obtain ⟨f1,f2,f3,f4,_⟩:=hq.row i q hC;refine ⟨?_,by simp only;rw [WH];exact f2,(Xh f3 f4).1⟩;rcases f1 with h|h
   ·left;simp only;rw [h];rfl
   ·exact Or.inr h
 have hF:∀x∈(s.flatL a c qs).refs,Ga s.strip W x:=λx hx=>by
  rcases List.mem_append.1 hx with hx|hx
  ·obtain ⟨p',hX,hx⟩:=Wu hx
   obtain ⟨i,p,q,hp,hC,rfl⟩:=hD p' hX;obtain ⟨_,_,f3,f4,_⟩:=hq.row i q hC;exact (Xh f3 f4).2 x hx
  ·exact hg x (List.mem_append_right _ hx)
 obtain ⟨ms,hY,hU⟩:=X5 hF;rw [(s.flatL a c qs).refs_key,← hE,← hK] at hU;have hf:AI (s.flatL a c qs).strip=AI s.strip:=by unfold AI;rw [hE]
 have hZ:I8 (s.flatL a c qs).strip=I8 s.strip:=rfl
 have hG:∀(P:Ph→Bool),(∀(i:Nat) (p:Ph) (q:PhF),s.phrases[i]?=some p→qs[i]?=some q→P ⟨p.name,q.ia,q.ic,VZ q.L⟩=true)→(VV s.phrases qs).all P=true:=λP hP=>List.all_eq_true.2 λx hx=>by
  obtain ⟨i,p,q,hp,hC,rfl⟩:=hD x hx;exact hP i p q hp hC
 have q1:(s.flatL a c qs).strip.lims=true:=by
  unfold Sc.lims Sc.fit at h1 ⊢;simp only [Ls.strip,Ls.flatL,Bool.and_eq_true,decide_eq_true_eq,List.length_map,VU] at h1 ⊢
  exact ⟨h1.1,Wz _ _ _ hq.len (λq hC x hx=>by
   obtain ⟨i,hi⟩:=List.getElem?_of_mem hC
   exact ((hq.row i q hi).2.2.2.1 x hx).few) (by have:=hq.sum;omega)⟩
 have q4:(s.flatL a c qs).strip.kinds=true:=by
  unfold Sc.kinds;simp only [Ls.strip,Ls.flatL,List.all_map];exact hG _ λi p q hp hC=>WR q.L λx hx=>((hq.row i q hC).2.2.2.1 x hx).kinds
 have q2:(s.flatL a c qs).strip.named=true:=by
  unfold Sc.named at h2 ⊢;rw [hE,hK];exact h2
 have q3:(s.flatL a c qs).strip.apart=true:=by
  unfold Sc.apart at h3 ⊢;rw [hE,hK];exact h3
 have qi:(s.flatL a c qs).strip.idx ms=some ms:=by
  unfold Sc.idx;rw [if_pos q4];exact hU
 have qc:Dd (s.flatL a c qs).strip ms=0:=by
  have hr:Db (s.flatL a c qs).strip ms=0:=by
   unfold Db;rw [q1,q2,q3,qi]
   rfl
  unfold Dd;rw [if_pos hr,if_pos qi]
 have hM:=hL;unfold Iy at hM;simp only [Bool.and_eq_true,decide_eq_true_eq] at hM;obtain ⟨b1,b2,b3,b4,b5,b6,b7⟩:=hM;have hH:(s.flatL a c qs).phrases.all (λp=>p.its.strip.exB)=true:=hG _ λi p q hp hC=>Xi q.L λx hx=>((hq.row i q hC).2.2.2.1 x hx).ok
 have hO:BG ((s.flatL a c qs).nexts (AI s.strip))=[]:=Xl λj=>by
  unfold Ls.nexts;rw [List.getD_eq_getElem?_getD,List.getElem?_map]
  cases hx:(s.flatL a c qs).phrases[j]? with
  | none=>rfl
  | some x =>
   obtain ⟨i,p,q,hp,hC,rfl⟩:=hD x (List.mem_of_getElem? hx);simp [WI]
 have hQ:OQ (s.flatL a c qs).itsL (AI s.strip):=λt ht u hu=>by
  obtain ⟨x,hx,rfl⟩:=List.mem_map.1 ht;obtain ⟨i,p,q,hp,hC,rfl⟩:=hD x hx;rw [show (Ph.its ⟨p.name,q.ia,q.ic,VZ q.L⟩).strip=(VZ q.L).strip from rfl,WI] at hu;cases hu
 have hB:=OR (Mh b5 b6 (Kl hc)) b6;have hV:=OR (Mh hH hO hQ) hO
 have hI:∀j,j<s.phrases.length→JB (s.flatL a c qs).ltsL (AI s.strip) (j:Nat)=JB s.ltsL (AI s.strip) (j:Nat):=λj hj=>by
  obtain ⟨p,hp⟩:∃p,s.phrases[j]?=some p:=⟨_,qg hj⟩;obtain ⟨q,hC⟩:∃q,qs[j]?=some q:=⟨_,qg (by rw [hq.len];exact hj)⟩;rw [hV.fix j _ (We _ _ j p q hp hC)];simp only;rw [WG];exact (hq.row j q hC).2.2.2.2
 have hR:∀j,j<s.phrases.length→DS (s.flatL a c qs).itsL (AI s.strip) (j:Nat)=DS s.itsL (AI s.strip) (j:Nat):=λj hj=>by
  rw [hB.num j hj,hV.num j (by show j<(VV s.phrases qs).length;rw [VU];exact hj),hI j hj]
 have qL:Iy (s.flatL a c qs) (AI (s.flatL a c qs).strip)=true:=by
  rw [hf];unfold Iy;simp only [Bool.and_eq_true,decide_eq_true_eq];refine ⟨b1,b2,b3,b4,hH,hO,List.all_eq_true.2 λd hd=>?_⟩;obtain ⟨i,hS,hT⟩:=FJ hc hd;have:=List.all_eq_true.1 b7 d hd;unfold CQ at this ⊢;rw [hS] at this ⊢;rw [hR i hT];exact this
 refine ⟨ms,hW,hY,?_,?_⟩
 ·unfold Bc
  rw [if_pos qc,if_pos qL]
 ·unfold Fk
  rw [List.flatMap_map,List.flatMap_map,hf,hZ];refine Xu λd hd=>?_
  obtain ⟨i,hS,hT⟩:=FJ hc hd;have e1:(NB (s.flatL a c qs) d).sgs (I8 s.strip) (JB (s.flatL a c qs).ltsL (AI s.strip))=Bh (I8 s.strip) (I8 s.strip d.rn) d.bar (AA d.mirror (JB (s.flatL a c qs).ltsL (AI s.strip) ((s.flatL a c qs).strip.pnames.idxOf d.pn:Nat))):=rfl;have e2:(NB s d).sgs (I8 s.strip) (JB s.ltsL (AI s.strip))=Bh (I8 s.strip) (I8 s.strip d.rn) d.bar (AA d.mirror (JB s.ltsL (AI s.strip) (s.strip.pnames.idxOf d.pn:Nat))):=rfl
  have he:(s.strip.pnames.idxOf d.pn:Nat)=i:=by
   have:((s.strip.pnames.idxOf d.pn:Nat):Int)=(i:Int):=hS;omega
  rw [e1,e2,hE,he,hI i hT]
def Lt.few:Lt→Prop
 | .nil=>True
 | .cons _ _ _ _ _ its _ _ ms r=>ms.length≤64∧its.few∧r.few
theorem Wj:∀(T:Lt) (d:Nat) (left l:Int),T.strip.count d left=some l→T.few
 | .nil,_,_,_,_=>trivial
 | .cons k n un ia ic its ma mc ms r,d,left,l,h=>by
  simp only [Lt.strip,Its.count] at h
  split at h
  ·rename_i hc
   split at h
   ·cases h
   ·rename_i l2 h2
    exact ⟨hc.1,Wj its _ _ _ h2,Wj r _ _ _ h⟩
  ·cases h
theorem Wp:∀(ps:List Ph) (left l:Int),countP (ps.map Ph.strip) left=some l→∀p∈ps,p.its.few
 | [],_,_,_,p,hp=>by cases hp
 | q::r,left,l,h,p,hp=>by
  simp only [List.map_cons,countP] at h
  split at h
  ·cases h
  ·rename_i l2 h2
   rcases List.mem_cons.1 hp with rfl|hp
   ·unfold Its.countL at h2
    split at h2
    ·exact Wj _ _ _ _ h2
    ·cases h2
   ·exact Wp r _ _ h p hp
structure ItOk(s:Ls)(V:World)(b o:Nat)(T:Lt):Prop where
 at_:T.At V b o
 good:∀r∈T.refsL b o,Ga s.strip V r
 exB:T.strip.exB=true
 kinds:T.strip.kinds=true
 few:T.few
structure FEv(s:Ls)(V:World)(x:XG):Prop where
 ok:x.ms.all Cs=true
 kinds:x.ms.all DW=true
 few:x.ms.length≤64
 form:x.ms=[]∨x.ma=some ⟨blk x.ma,off x.ma,none⟩
 at_:B6 V (blk x.ma) (off x.ma) x.ms
 good:∀r∈As (blk x.ma) (off x.ma) x.ms,Ga s.strip V r
theorem Ga.below{s:Sc}{V W:World}{r:RefL}(h:Ga s V r)(hb:Below V.heap.size V W):Ga s W r:=by
 obtain ⟨n,h1,h2⟩:=h;exact ⟨n,Ad hb h1,h2⟩
theorem FEv.ok_at{s:Ls}{V W:World}{x:XG}(h:FEv s V x)(hb:Below V.heap.size V W)(hx:x.mir=true→W.rangeAt x.G 0 (feI x)):FEok s.strip W x :=
 ⟨h.ok,h.kinds,h.few,h.form,Cf h.at_ hb,λr hr=>(h.good r hr).below hb,hx⟩
structure XH(s:Ls)(V W0:World)(P E:Nat)(L:List XG)(v:Value)(left:Int)(W:World):Prop where
 base:ButOne P W0 W
 own:W.ownsRow E 121 6 v L.length (L.flatMap feC)
 ok:∀x∈L,FEv s V x∧(x.mir=true→W0.heap.size≤x.G∧W.rangeAt x.G 0 (feI x)∧v.ownBlock≠some x.G)
 left:W.heap[P]?=some (.cells #[int i64 left] 3 (0,0))
 low:P<W0.heap.size
 mid:W0.heap.size≤E
 top:E≤W.heap.size
theorem VY{W:World}{g:Nat}{x:XG}(h:W.rangeAt g 0 (feI x)):g<W.heap.size:=by
 have:=h 0 _ rfl;exact CJ this
theorem VW{W W':World}{g o:Nat}{l:List Value}(h:W.rangeAt g o l)(hb:W'.heap[g]?=W.heap[g]?):W'.rangeAt g o l:=λj u hj=>(World.cell?_of_block hb).trans (h j u hj)
theorem Wa{W:World}{E k n:Nat}{v:Value}{xs:List Value}{g:Nat}{e:TypeId}(h:W.ownsRow E e k v n xs)(hv:v.ownBlock=some g):E≤g∧g<W.heap.size:=by
 rcases h.2 with ⟨rfl,_⟩|⟨g',cap,cur,rfl,hg,hh,_⟩
 ·cases hv
 ·obtain rfl:g'=g:=Option.some.inj hv
  exact ⟨hg,(qs.1 hh).1⟩
theorem WX{W W':World}{E k n:Nat}{v:Value}{xs:List Value}{e:TypeId}(h:W.ownsRow E e k v n xs)(hb:∀g,v.ownBlock=some g→W'.heap[g]?=W.heap[g]?):W'.ownsRow E e k v n xs:=by
 refine ⟨h.1,?_⟩;rcases h.2 with h|⟨g,cap,cur,rfl,hg,hh,hr⟩
 ·exact Or.inl h
 ·exact Or.inr ⟨g,cap,cur,rfl,hg,(hb g rfl).trans hh,hr⟩
theorem XH.keep{s:Ls}{V W0 W W':World}{P E:Nat}{L:List XG}{v:Value}{left:Int}(h:XH s V W0 P E L v left W)(hb:Below W.heap.size W W'):XH s V W0 P E L v left W' :=
 ⟨h.base.trans (ButOne.of_below hb),WX h.own λg hg=>hb.block g (Wa h.own hg).2,λx hx=>⟨(h.ok x hx).1,λhm=>by
  obtain ⟨h1,h2,h3⟩:=(h.ok x hx).2 hm
  exact ⟨h1,VW h2 (hb.block _ (VY h2)),h3⟩⟩,Ah hb h.left,h.low,h.mid,Nat.le_trans h.top hb.size⟩
theorem XH.call{s:Ls}{V W0 W W':World}{P E:Nat}{L:List XG}{v:Value}{left left':Int}(h:XH s V W0 P E L v left W)(hb:ButOne P W W')(hl:W'.heap[P]?=some (.cells #[int i64 left'] 3 (0,0))):XH s V W0 P E L v left' W' :=
 ⟨h.base.trans hb,WX h.own λg hg=>hb.block g (Wa h.own hg).2 (by have:=(Wa h.own hg).1;have:=h.mid;have:=h.low;omega),λx hx=>⟨(h.ok x hx).1,λhm=>by
  obtain ⟨h1,h2,h3⟩:=(h.ok x hx).2 hm
  exact ⟨h1,VW h2 (hb.block _ (VY h2) (by have:=h.low;omega)),h3⟩⟩,hl,h.low,h.mid,Nat.le_trans h.top hb.size⟩
theorem XH.put{s:Ls}{V W0 W:World}{P E:Nat}{L:List XG}{v:Value}{left:Int}(h:XH s V W0 P E L v left W)(l:Int):∃W',W.setCell ⟨P,0,none⟩ (int i64 l)=W'∧XH s V W0 P E L v l W'∧W'.cell? ⟨P,0,none⟩=some (int i64 l)∧(∀q,q≠P→W'.heap[q]?=W.heap[q]?)∧W'.heap.size=W.heap.size:=by
 obtain ⟨W',e,g1,g2,g3,_,_⟩:=CG (i:=0) (v:=int i64 l) (cs':=#[int i64 l]) h.left rfl rfl;have hz:W'.heap.size=W.heap.size:=by rw [← e];simp [World.setCell]
 refine ⟨W',e,h.call ⟨?_,?_,?_,Nat.le_of_eq hz.symm,λb _ hr=>g2 b hr⟩ g1,Aa g1 0 rfl,g2,hz⟩
 ·exact (g3 0 (Nat.zero_le _)).os
 ·exact (g3 0 (Nat.zero_le _)).tape
 ·exact (g3 0 (Nat.zero_le _)).output
theorem XH.app{s:Ls}{V W0 W W':World}{P E:Nat}{L M:List XG}{v v':Value}{left:Int}(h:XH s V W0 P E L v left W)(ho:W'.ownsRow E 121 6 v' (L.length+M.length) (L.flatMap feC++M.flatMap feC))(hg:W.grownBy W' v.ownBlock)(ha:v'.ownBlock=v.ownBlock∨v'.ownBlock=some W.heap.size)
  (hM:∀x∈M,FEv s V x∧(x.mir=true→W0.heap.size≤x.G∧W.rangeAt x.G 0 (feI x)∧v.ownBlock≠some x.G)):XH s V W0 P E (L++M) v' left W':=by
 have hC:∀g,v.ownBlock=some g→E≤g∧g<W.heap.size:=λg hv=>Wa h.own hv
 have hA:∀g,g<W.heap.size→v.ownBlock≠some g→W'.heap[g]?=W.heap[g]?:=λg h1 h2=>hg.block g h1 (λe=>h2 e.symm)
 have hB:∀g,g<W0.heap.size→W'.heap[g]?=W.heap[g]?:=λg h1=>hA g (by have:=h.base.size;omega) (λe=>by have:=hC g e;have:=h.mid;omega)
 have hD:∀g,g<W.heap.size→v.ownBlock≠some g→v'.ownBlock≠some g:=λg h1 h2 e=>by
  rcases ha with ha|ha
  ·exact h2 (ha.symm.trans e)
  ·rw [ha] at e;injection e with e;omega
 refine ⟨⟨hg.os.trans h.base.os,hg.tape.trans h.base.tape,hg.output.trans h.base.output,Nat.le_trans h.base.size hg.size,λb hb hr=>(hB b hb).trans (h.base.block b hb hr)⟩,by rw [List.length_append,List.flatMap_append];exact ho,λx hx=>?_,(hB P h.low).trans h.left,h.low,h.mid,Nat.le_trans h.top hg.size⟩
 have key:∀x:XG,(x.mir=true→W0.heap.size≤x.G∧W.rangeAt x.G 0 (feI x)∧v.ownBlock≠some x.G)→(x.mir=true→W0.heap.size≤x.G∧W'.rangeAt x.G 0 (feI x)∧v'.ownBlock≠some x.G):=λx hx hm=>by
  obtain ⟨h1,h2,h3⟩:=hx hm;have:=VY h2;exact ⟨h1,VW h2 (hA _ this h3),hD _ this h3⟩
 rcases List.mem_append.1 hx with hx|hx
 ·exact ⟨(h.ok x hx).1,key x (h.ok x hx).2⟩
 ·exact ⟨(hM x hx).1,key x (hM x hx).2⟩
structure FlA(s:Ls)(V W0:World)(P:Nat)(bars:List BarR)(n:Nat)(left:Int)(L:List XG)(ao:Option Addr)(left':Int)(W:World):Prop where
 base:ButOne P W0 W
 cnt:W.heap[P]?=some (.cells #[int i64 left'] 3 (0,0))
 row:L=[]∨∃g,ao=some ⟨g,0,none⟩∧W0.heap.size≤g∧g<W.heap.size
 at_:∀j u,(L.flatMap feC)[j]?=some u→W.cell? ⟨blk ao,j,none⟩=some u
 ok:∀x∈L,FEv s V x∧(x.mir=true→W0.heap.size≤x.G∧W.rangeAt x.G 0 (feI x))
 le:left'≤left
 neg:left<0→left-1≤left'
 low:0≤left→-((n:Int)+1)*66≤left'
 sum:L.length+left'.toNat≤left.toNat
 out:0≤left'→L.map XG.bar=bars
def FlP(s:Ls)(V W0:World)(P:Nat)(bars:List BarR)(n:Nat)(left:Int)(e:Ending)(W:World):Prop :=
 ∃(L:List XG) (ao:Option Addr) (c:Nat) (left':Int),e=.returned (.slice ao L.length c)∧FlA s V W0 P bars n left L ao left' W
def FlC(s:Ls)(V:World)(P n:Nat):Prop:=∀(T:Lt) (ia:Option Addr) (ic:Nat) (turn:Bool) (left:Int) (W:World),Below V.heap.size V W→V.heap.size≤P→W.heap[P]?=some (.cells #[int i64 left] 3 (0,0))→left≤n→-100000≤left →
 (T.len=0∨ia=some ⟨blk ia,off ia,none⟩)→T.len≤maxLen→ItOk s V (blk ia) (off ia) T →
 Calls Tryz.prog 21 #[s.val,.slice ia T.len ic,.bool turn,.pointer (some ⟨P,0,none⟩)] W (FlP s V W P (AA turn (T.bars (AI s.strip) (JB s.ltsL (AI s.strip)))) n left)
theorem XH.done{s:Ls}{V W0 W:World}{P E:Nat}{L:List XG}{v:Value}{left:Int}(h:XH s V W0 P E L v left W):∃ao c,v=.slice ao L.length c∧(L=[]∨∃g,ao=some ⟨g,0,none⟩∧W0.heap.size≤g∧g<W.heap.size)∧(∀j u,(L.flatMap feC)[j]?=some u→W.cell? ⟨blk ao,j,none⟩=some u):=by
 rcases h.own.2 with ⟨rfl,hn⟩|⟨g,cap,cur,rfl,hg,hh,_⟩
 ·have hl:L=[]:=List.length_eq_zero_iff.1 hn
  subst hl;exact ⟨none,0,rfl,Or.inl rfl,λj u hj=>by simp at hj⟩
 ·refine ⟨some ⟨g,0,none⟩,cap,rfl,Or.inr ⟨g,rfl,Nat.le_trans h.mid hg,(qs.1 hh).1⟩,λj u hj=>?_⟩
  have:=h.own.cells (g:=g) rfl j u hj;rw [AN,Nat.zero_add] at this;exact this
theorem XH.ans{s:Ls}{V W0 W1 W:World}{P E n:Nat}{L:List XG}{v:Value}{left left':Int}{bars:List BarR}(h:XH s V W1 P E L v left' W)(hb:Below W0.heap.size W0 W1)(h1:left'≤left)(h2:left<0→left-1≤left')(h3:0≤left→-((n:Int)+1)*66≤left')(h4:L.length+left'.toNat≤left.toNat)(h5:0≤left'→L.map XG.bar=bars) :
  FlP s V W0 P bars n left (.returned v) W:=by
 obtain ⟨ao,c,rfl,q1,q2⟩:=h.done;refine ⟨L,ao,c,left',rfl,(ButOne.of_below hb).trans h.base,h.left,?_,q2,λx hx=>⟨(h.ok x hx).1,λhm=>⟨Nat.le_trans hb.size ((h.ok x hx).2 hm).1,((h.ok x hx).2 hm).2.1⟩⟩,h1,h2,h3,h4,h5⟩;rcases q1 with q1|⟨g,e,h1,h2⟩
 ·exact Or.inl q1
 ·exact Or.inr ⟨g,e,Nat.le_trans hb.size h1,h2⟩
theorem XH.nils{s:Ls}{V W0 W1 W:World}{P E n:Nat}{L:List XG}{v:Value}{left left':Int}{bars:List BarR}(h:XH s V W1 P E L v left' W)(hb:Below W0.heap.size W0 W1)(h0:left'<0)(h1:left'≤left)(h2:left<0→left-1≤left')(h3:0≤left→-((n:Int)+1)*66≤left') :
  FlP s V W0 P bars n left (.returned (.slice none 0 0)) W :=
 ⟨[],none,0,left',rfl,(ButOne.of_below hb).trans h.base,h.left,Or.inl rfl,(λj u hj=>by simp at hj),(λx hx=>by cases hx),h1,h2,h3,(by simp;omega),(λh=>by omega)⟩
theorem XH.start{s:Ls}{V W:World}{P:Nat}{left:Int}(hl:W.heap[P]?=some (.cells #[int i64 left] 3 (0,0))):XH s V W P W.heap.size [] (.slice none 0 0) left W :=
 ⟨ButOne.refl _ _,World.ownsRow_nil W _ _ _,(λx hx=>by cases hx),hl,(qs.1 hl).1,qn _,qn _⟩
structure PhsOk(s:Ls)(V:World):Prop where
 at_:s.At V
 ph:∀(j:Nat) (p:Ph),s.phrases[j]?=some p→(p.its.len=0∨p.ia=some ⟨blk p.ia,off p.ia,none⟩)∧p.its.len≤maxLen∧ItOk s V (blk p.ia) (off p.ia) p.its∧JB s.ltsL (AI s.strip) j=p.its.bars (AI s.strip) (JB s.ltsL (AI s.strip))
theorem ItOk.head{s:Ls}{V:World}{b o:Nat}{k n:Int}{un:Nm}{ia:Option Addr}{ic:Nat}{its:Lt}{ma:Option Addr}{mc:Nat}{ms:List Mov}{r:Lt}(h:ItOk s V b o (.cons k n un ia ic its ma mc ms r)):∃u:Int,
  V.rangeAt b o [int i64 k,int i64 n,sv un,int i64 u,.slice ia its.len ic,.slice ma ms.length mc]∧((its.len=0∨ia=some ⟨blk ia,off ia,none⟩)∧its.len≤maxLen∧ItOk s V (blk ia) (off ia) its)∧ItOk s V b (o+6) r ∧
  ((k=1∧n=0∧un=[]∧u=0∧its.len=0∧∀mir G,FEv s V ⟨mir,G,ia,ic,ma,mc,ms⟩)∨(k=2∧1≤n∧n≤64)∨k=3∨(k=4∧u=AI s.strip un∧un∈s.strip.pnames)):=by
 obtain ⟨⟨a0,a1,a2,a4,a5⟩,⟨m1,m2,m3⟩,⟨i1,i2,i3⟩,hr⟩:=h.at_;have hk:=h.kinds;have he:=h.exB;have hf:=h.few;simp only [Lt.strip,Its.kinds,Bool.and_eq_true,decide_eq_true_eq] at hk;simp only [Lt.strip,Its.exB,Bool.and_eq_true,Bool.or_eq_true,decide_eq_true_eq] at he;obtain ⟨⟨k1,k2⟩,k3,k4,k5⟩:=hk;obtain ⟨e1,e2,e3,⟨e4,e5⟩,e6⟩:=he;have hg:∀x∈its.refsL (blk ia) (off ia),Ga s.strip V x:=λx hx=>h.good x (by simp [Lt.refsL,hx])
 have hB:∀x∈r.refsL b (o+6),Ga s.strip V x:=λx hx=>h.good x (by simp [Lt.refsL,hx])
 have hC:∀x∈As (blk ma) (off ma) ms,Ga s.strip V x:=λx hx=>h.good x (by simp [Lt.refsL,hx])
 have h3:=h.good ⟨b,o+2,By k,un⟩ (by simp [Lt.refsL]);obtain ⟨u,hu,hA⟩:=h3
 have hD:V.rangeAt b o [int i64 k,int i64 n,sv un,int i64 u,.slice ia its.len ic,.slice ma ms.length mc]:=λj v hv=>by
  match j,hv with
  | 0,hv=>cases hv;exact a0
  | 1,hv=>cases hv;exact a1
  | 2,hv=>cases hv;exact a2
  | 3,hv=>cases hv;exact hu
  | 4,hv=>cases hv;exact a4
  | 5,hv=>cases hv;exact a5
  | j+6,hv=>simp at hv
 refine ⟨u,hD,⟨i1,i2,⟨i3,hg,e5,k4,hf.2.1⟩⟩,⟨hr,hB,e6,k5,hf.2.2⟩,?_⟩;unfold Bu RefL.key By at hA;rcases (by omega:k=1∨k=2∨k=3∨k=4) with rfl|rfl|rfl|rfl
 ·left
  simp only [show ¬((1:Int)=4) from by decide,if_false,if_true] at hA
  split at hA
  ·rename_i hm
   refine ⟨rfl,by simpa [EA] using e1,hm.1,hm.2,?_,λmir G=>⟨e4,k3,hf.1,m1,m3,hC⟩⟩;rcases e2 with e2|e2|e2
   ·rwa [Lt.strip_len] at e2
   ·exact absurd e2 (by decide)
   ·exact absurd e2 (by decide)
  ·cases hA
 ·exact Or.inr (Or.inl ⟨rfl,Fs e1⟩)
 ·exact Or.inr (Or.inr (Or.inl rfl))
 ·right;right;right
  simp only [if_true,show ¬((2:Nat)=0) from by decide,show ¬((2:Nat)=1) from by decide,if_false] at hA
  split at hA
  ·rename_i hm
   refine ⟨rfl,?_,hm⟩;have:=Option.some.inj hA;exact this.symm
  ·cases hA
theorem XH.keepB{s:Ls}{V W0 W W':World}{P E B:Nat}{L:List XG}{v:Value}{left:Int}(h:XH s V W0 P E L v left W)(hb:Below B W W')(h1:∀g,v.ownBlock=some g→g<B)(h2:∀x∈L,x.mir=true→x.G<B)(h3:E≤B):XH s V W0 P E L v left W' :=
 have hm:=h.mid;have hl:=h.low
 ⟨⟨hb.os.trans h.base.os,hb.tape.trans h.base.tape,hb.output.trans h.base.output,Nat.le_trans h.base.size hb.size,λb q1 q2=>(hb.block b (by omega)).trans (h.base.block b q1 q2)⟩,WX h.own λg hg=>hb.block g (h1 g hg),λx hx=>⟨(h.ok x hx).1,λhm=>by
  obtain ⟨q1,q2,q3⟩:=(h.ok x hx).2 hm
  exact ⟨q1,VW q2 (hb.block _ (h2 x hx hm)),q3⟩⟩,(hb.block P (by omega)).trans h.left,h.low,h.mid,Nat.le_trans h.top hb.size⟩
theorem XH.blocks{s:Ls}{V W0 W:World}{P E:Nat}{L:List XG}{v:Value}{left:Int}(h:XH s V W0 P E L v left W):(∀g,v.ownBlock=some g→g<W.heap.size)∧∀x∈L,x.mir=true→x.G<W.heap.size :=
 ⟨λg hg=>(Wa h.own hg).2,λx hx hm=>VY ((h.ok x hx).2 hm).2.1⟩
theorem Wg:∃i,Tryz.prog.info? 121=some i∧i.zero=some (.agg #[int i64 0,int i64 0,.string ⟨#[]⟩,int i64 0,.slice none 0 0,.slice none 0 0])∧i.size=6∧i.bytes=88:=by
 have h:=TI
 cases hi:Tryz.prog.info? 121 with
 | none=>rw [hi] at h;cases h
 | some i =>
  rw [hi] at h;simp only [Option.map_some,Option.some.injEq,Prod.mk.injEq] at h;exact ⟨i,rfl,h.1,h.2.1,h.2.2⟩
theorem WF(L:List XG):∀u∈L.flatMap feC,u.oneCell'=true:=by
 intro u hu;obtain ⟨x,_,hx⟩:=List.mem_flatMap.1 hu;unfold feC feI sv at hx
 split at hx<;>(simp only [List.mem_cons,List.not_mem_nil,or_false] at hx;rcases hx with rfl|rfl|rfl|rfl|rfl|rfl<;>rfl)
theorem FlA.news{s:Ls}{V W0 W:World}{P n:Nat}{bars:List BarR}{left left':Int}{L:List XG}{ao:Option Addr}(h:FlA s V W0 P bars n left L ao left' W):(ao=none→L.length=0)∧∀ad,ao=some ad→∀j u,(L.flatMap feC)[j]?=some u→W.cell? (ad.add j)=some u:=by
 rcases h.row with rfl|⟨g,rfl,_⟩
 ·exact ⟨λ_=>rfl,λad _ j u hj=>by simp at hj⟩
 ·refine ⟨(λe=>by cases e),λad e j u hj=>?_⟩
  cases e;rw [AN,Nat.zero_add];exact h.at_ j u hj
theorem XH.join{s:Ls}{V W0 W0' W W':World}{P E n:Nat}{L M:List XG}{v v':Value}{left left':Int}{bars:List BarR}{ao:Option Addr}(h:XH s V W0 P E L v left W0')(hA:FlA s V W0' P bars n left M ao left' W)(ho:W'.ownsRow E 121 6 v' (L.length+M.length) (L.flatMap feC++M.flatMap feC))(hg:W.grownBy W' v.ownBlock)(ha:v'.ownBlock=v.ownBlock∨v'.ownBlock=some W.heap.size):XH s V W0 P E (L++M) v' left' W' :=
 (h.call hA.base hA.cnt).app ho hg ha λx hx=>⟨(hA.ok x hx).1,λhm=>by
  obtain ⟨h1,h2⟩:=(hA.ok x hx).2 hm
  exact ⟨Nat.le_trans h.base.size h1,h2,λe=>by have:=(Wa h.own e).2;omega⟩⟩
theorem WC(l:List BarR):∀n,Cx (n+1) l=Cx n l++l
 | 0=>by simp [Cx]
 | n+1=>by
  have ih:=WC l n
  show l++Cx (n+1) l=(l++Cx n l)++l
  rw [ih,List.append_assoc]
theorem XH.vis{s:Ls}{V W0 W:World}{P E:Nat}{L:List XG}{v:Value}{left:Int}(h:XH s V W0 P E L v left W)(hV:Below V.heap.size V W0)(hP:V.heap.size≤P):Below V.heap.size V W :=
 hV.trans (h.base.below hP hV.size)
theorem Ww{o:Oper}{a:Act}{K:Act→World→Prop}{Q:Exit→Act→World→Prop}{w:World}(s x:Operand)(t:TypeId)
  (ho:o.op=.call { callee:=.builtin .append,args:=#[s,x],argTypes:=#[t,t] })
  (base:Nat) (e:TypeId) (i:TypeInfo) (z:Value) (size bytes:Nat) (ht:Tryz.prog.underlying t=some (.slice e)) (hi:Tryz.prog.info? e=some i) (hz:i.zero=some z)
  (hC:i.size=size) (hH:i.bytes=bytes) (hI:z.cells.size=size) (hJ:0<size)
  (v:Value) (n:Nat) (xs:List Value) (hs:a.eval s=v) (hA:w.ownsRow base e size v n xs)
  (ao:Option Addr) (m c:Nat) (news:List Value) (hx:a.eval x=.slice ao m c) (hl:news.length=m*size) (hD:ao=none→m=0)
  (hE:∀ad,ao=some ad→∀j u,news[j]?=some u→w.cell? (ad.add j)=some u) (h1:∀u∈news,u.oneCell'=true)
  (hK:n+m≤maxLen) (hB:(n+m)*bytes≤140737488355328) (hF:base≤w.heap.size)
  (h:∀v' w',w'.ownsRow base e size v' (n+m) (xs++news)→w.grownBy w' v.ownBlock→(v'.ownBlock=v.ownBlock∨v'.ownBlock=some w.heap.size)→K (a.put o.dst v') w'):Oper.wp Tryz.prog o a w K Q:=by
 cases ao with
 | some ad =>
  obtain ⟨v',w',hr,h2,h3,h4,h5⟩:=run_append_own_at (P:=Tryz.prog) w base t o.type e i z size bytes ht hi hz hC hH hI hJ v n xs hA ad m c news hl (hE ad rfl) h1 hK hB hF;unfold Oper.wp execOp;simp only [ho,resolve,invoke,builtin,Sem.run_bind,Sem.run_pure,Result.andThen_ok,List.map_toArray,List.map_cons,List.map_nil,hs,hx,hr];exact h v' w' h2 h3 h5
 | none =>
  obtain rfl:=hD rfl;obtain rfl:news=[]:=List.length_eq_zero_iff.1 (by omega);have hG:=Wf (w:=w) base t o.type e i size c ht hi v n xs hA;unfold Oper.wp;simp [execOp,ho,resolve,invoke,builtin,hs,hx,hG,Result.andThen];exact h v w (by simpa using hA) ⟨rfl,rfl,rfl,qn _,λ_ _ _=>rfl⟩ (Or.inl rfl)
theorem WA(s:Ls)(V:World)(P n:Nat)(hs:PhsOk s V)(hn:n≤1000)(hI:∀m,m+1=n→FlC s V P m):FlC s V P n:=by
 intro T ia ic turn left W hV hP hl uS uT hW ht hT;obtain ⟨B,hB⟩:∃B,JB s.ltsL (AI s.strip)=B:=⟨_,rfl⟩;rw [hB];have hv:s.val=.agg s.cells:=rfl;rw [hv];obtain ⟨W1,e1,g1,b1,z1⟩:=Ag W s.cells 30;obtain ⟨X,hX⟩:∃X,W.heap.size=X:=⟨_,rfl⟩;rw [hX] at g1 z1;have uU:P<X:=by rw [← hX];exact (qs.1 hl).1
 have F0:XH s V W1 P W1.heap.size [] (.slice none 0 0) left W1:=XH.start (Ah b1 hl);have Hi:Below V.heap.size V W1:=hV.trans (b1.mono hV.size);obtain ⟨E,hE⟩:∃E,W1.heap.size=E:=⟨_,rfl⟩;rw [hE] at F0;have HL:X<E:=by omega
 have H5:T.len≤9223372036854775807:=ht;obtain ⟨N,hN⟩:∃N,T.len=N:=⟨_,rfl⟩;rw [hN] at H5 ⊢;have HT:=qh hT;have Hj:=qh F0;have hf:=qh Hi;have HS:=qh hs;have HI:=qh hI;have HX:=qh g1;have HE:=qh hE;have HB:=qh hB;have HN:=qh hN;have H6:=qh hW;have uV:=qh hX;have Hk:=qh b1;clear hT F0 Hi hs hI g1 hE hB hN hW b1 hl z1 ht hV hv;go_enter Tryz.func21,Tryz.ntmps21;go_wp2_with fail;go_loopw [8,13] (λov iv wr=>∃(i:Nat) (R:Lt) (L:List XG) (l:Int),iv=int i64 i∧i+R.len=N∧l≤left∧(left<0→l=left)∧(0≤left→-(n:Int)*66-64≤l)∧Hid (XH s V W1 P E L ov l wr)∧Hid (ItOk s V (blk ia) (off ia+i*6) R)∧L.length+l.toNat≤left.toNat∧Hid (0≤l→L.map XG.bar++AA turn (R.bars (AI s.strip) B)=AA turn (T.bars (AI s.strip) B))) (λ_ iv _=>N+1-(intOf iv).toNat)
 case atStart=>exact ⟨0,T,[],left,rfl,by rw [HN.out];omega,Int.le_refl _,λ_=>rfl,λh=>by omega,Hj,by rw [Nat.zero_mul,Nat.add_zero];exact HT,by simp,qh λ_=>by simp⟩
 case round =>
  clear Hj;obtain ⟨i,R,L,l,rfl,Hl,H7,Hm,HM,hF,hR,HO,he⟩:=hrel
  cases R with
  | nil =>
   simp only [Lt.len] at Hl;obtain rfl:i=N:=by omega
   have hz:¬(i:Int)<(i:Int):=by omega
   go_wp2_with fail;go_ret;have hc:=he.out;simp only [Lt.bars,AA,List.map_nil,List.append_nil] at hc;exact hF.out.ans Hk.out H7 (λh=>by rw [Hm h];omega) (λh=>by have:=HM h;omega) HO hc
  | cons k nn un ja jc its ma mc ms r =>
   simp only [Lt.len] at Hl;have hi:(i:Int)<(N:Int):=by omega
   have Hn:=H6.out.resolve_left (by rw [HN.out];omega);obtain ⟨b,o,rfl⟩:∃b o,ia=some ⟨b,o,none⟩:=⟨_,_,Hn⟩;obtain ⟨u,HP,Ho,hH,hk⟩:=hR.out.head;simp only [blk,off] at HP hH;have hh:=qh Ho;have hw:=qh hH;have hJ:=qh he.out;have ho:=qh (show wr.rangeAt b (o+i*6) [int i64 k,int i64 nn,sv un,int i64 u,.slice ja its.len jc,.slice ma ms.length mc] from λj v hj=>Ad (hF.out.vis hf.out hP) (HP j v hj));clear Ho hH he Hn HP hR;obtain ⟨w2,uW,gB,bB,zB⟩:=Ag wr #[int i64 k,int i64 nn,sv un,int i64 u,.slice ja its.len jc,.slice ma ms.length mc] 121;obtain ⟨XB,HD⟩:∃X,wr.heap.size=X:=⟨_,rfl⟩;rw [HD] at gB zB;have F2:=hF.out.keep bB;obtain ⟨w3,uX,F3,c3,o3,z3⟩:=F2.put (l-1);have cl:=cell_of_one F2.left;have fl:=free_of_one F2.left;have H8:P<XB:=by have:=F2.low;have:=hF.out.top;have:=hF.out.mid;omega
   have g3:w3.heap[XB]?=some (.cells #[int i64 k,int i64 nn,sv un,int i64 u,.slice ja its.len jc,.slice ma ms.length mc] 121 (0,0)):=(o3 XB (by omega)).trans gB;have HR:E≤XB:=by rw [← HD];exact hF.out.top
   have hL:=qh F3;have hQ:=qh g3;have HF:=qh (show w3.heap.size=XB+1 by omega);have k0:=Aa g3 0 rfl;have uY:=qh HD;have HU:=hF.out.blocks;rw [HD] at HU;have hy:=qh HU;clear HU;clear F2 F3 gB bB zB o3 z3 g3 hF;by_cases HV:l-1<0
   ·go_wp2_with (first
     | (refine Fc (by kernel_rfl) 121 _ rfl b (o+i*6) rfl _ _ ho.out Tryz.underlying121 rfl (by kernel_rfl) ?_;simp only [Act.put,qD,qE,qF]))
    go_ret;exact hL.out.nils Hk.out HV (by omega) (λh=>by rw [Hm h];omega) (λh=>by have:=HM h;omega)
   ·have uZ:1≤n:=by omega
    obtain ⟨m,hm⟩:∃m,m+1=n:=⟨n-1,by omega⟩;have HG:=HI.out m hm;unfold FlC at HG;rw [HB.out] at HG;have HW:=qh HG;have ua:(m:Int)+1=n:=by omega
    clear HG;have H9:0≤left:=by omega
    have uA:=HM H9;have Hp:w3.heap[X]?=some (.cells s.cells 30 (0,0)):=(hL.out.base.block X (by rw [HE.out];exact HL) (by omega)).trans HX.out;have HH:=qh Hp;clear Hp;rcases hk with ⟨rfl,rfl,h0,rfl,hz,Hq⟩|⟨rfl,t1,t2⟩|rfl|⟨rfl,hu,Hr⟩
    ·have HZ:=qh (And.intro h0 hz)
     clear h0 hz
     cases turn with
     | false =>
      obtain ⟨i0,q0,q1,q2,q3⟩:=Wg;have HQ:=qh (And.intro q0 (And.intro q1 (And.intro q2 q3)));clear q0 q1 q2 q3;have HJ:L.length+1≤1001:=by omega
      have st1:True:=trivial
      go_wp2_with (first
       | (have q:=st1;clear q;refine Fc (by kernel_rfl) 121 _ rfl b (o+i*6) rfl _ _ ho.out Tryz.underlying121 rfl (by kernel_rfl) ?_;simp only [Act.put,qD,qE,qF];clear st1;have st2:True:=trivial)
       | (have q:=st2;clear q;refine wpList_load_row rfl 121 _ rfl XB rfl 121 #[int i64 1,int i64 0,sv un,int i64 0,.slice ja its.len jc,.slice ma ms.length mc] (0,0) _ hQ.out Tryz.underlying121 rfl (by kernel_rfl) ?_;simp only [Act.put,qD,qE,qF];obtain ⟨w4,Hs,g4,b4,z4⟩:=Ag w3 #[int i64 1,int i64 0,sv un,int i64 0,.slice ja its.len jc,.slice ma ms.length mc] 121;have h1:=qh (hL.out.keep b4);have HY:=qh g4;clear g4 b4 z4;clear st2;have st3:True:=trivial)
       | (at_builtin;(try rw [Hs]);refine VT rfl _ _ 55 rfl E 121 i0 _ 6 88 Tryz.underlying55 HQ.out.1 HQ.out.2.1 HQ.out.2.2.1 HQ.out.2.2.2 rfl (by decide) _ L.length (L.flatMap feC) rfl h1.out.own (some ⟨w3.heap.size,0,none⟩) 1 1 [int i64 1,int i64 0,sv un,int i64 0,.slice ja its.len jc,.slice ma ms.length mc] rfl rfl (λe=>by cases e) (λad e j v hj=>by cases e;rw [AN,Nat.zero_add];exact Aa HY.out j (by simpa using hj)) (λv hv=>by (simp only [List.mem_cons,List.not_mem_nil,or_false] at hv;rcases hv with rfl|rfl|rfl|rfl|rfl|rfl<;>rfl)) (by unfold maxLen;omega) (by omega) h1.out.top ?_;intro v5 w5 h2 h3 h4;have F5:=h1.out.app (M:=[⟨false,0,ja,jc,ma,mc,ms⟩]) (by have:=h2;rwa [show [int i64 1,int i64 0,sv un,int i64 0,.slice ja its.len jc,.slice ma ms.length mc]=[(⟨false,0,ja,jc,ma,mc,ms⟩:XG)].flatMap feC by simp [feC,feI,HZ.out.1,HZ.out.2]] at this) h3 h4 (λx hx=>by obtain rfl:=List.mem_singleton.1 hx;exact ⟨Hq false 0,λh=>by cases h⟩);have hD:=qh F5;clear h2 h3 h4 F5))
      go_roundw
      case rel =>
       refine ⟨i+1,r,L++[⟨false,0,ja,jc,ma,mc,ms⟩],l-1,by go_num,by omega,by omega,λh=>by omega,λ_=>by omega,hD,by show Hid (ItOk s V b (o+(i+1)*6) r);rw [show o+(i+1)*6=o+i*6+6 by omega];exact hw,by simp;omega,qh λh=>?_⟩;have:=hJ.out (by omega);rw [← this];simp [Lt.bars,itB,AA,XG.bar]
      case measure=>first|omega|(simp [intOf];omega)
     | true =>
      obtain ⟨i0,q0,q1,q2,q3⟩:=Wg;have HQ:=qh (And.intro q0 (And.intro q1 (And.intro q2 q3)));clear q0 q1 q2 q3;have HJ:L.length+1≤1001:=by omega
      obtain ⟨G,hG⟩:∃G,w3.heap.size=G:=⟨_,rfl⟩;have Ha:=qh (show G=XB+1 by rw [← hG];exact HF.out);have st1:True:=trivial
      go_wp2_with (first
       | (have q:=st1;clear q;refine Fc (by kernel_rfl) 121 _ rfl b (o+i*6) rfl _ _ ho.out Tryz.underlying121 rfl (by kernel_rfl) ?_;simp only [Act.put,qD,qE,qF];clear st1;have st2:True:=trivial)
       | (have q:=st2;clear q;refine wpList_load_row rfl 121 _ rfl XB rfl 121 #[int i64 1,int i64 0,sv un,int i64 0,.slice ja its.len jc,.slice ma ms.length mc] (0,0) _ hQ.out Tryz.underlying121 rfl (by kernel_rfl) ?_;simp only [Act.put,qD,qE,qF];obtain ⟨w4,Hs,g4,b4,z4⟩:=Ag w3 #[int i64 1,int i64 0,sv un,int i64 0,.slice ja its.len jc,.slice ma ms.length mc] 121;rw [hG] at g4;have h1:=qh (hL.out.keep b4);have HY:=qh g4;have Ht:=qh (Ah b4 hQ.out);have uB:=qh (show w4.heap.size=G+1 by rw [z4,hG]);clear g4 b4 z4 k0;clear st2;have st3:True:=trivial)
       | (have q:=st3;clear q;refine wpList_store_row rfl 121 _ _ rfl XB #[int i64 3,int i64 0,sv [],int i64 0,.slice (some ⟨G,0,none⟩) 1 1,.slice none 0 0] rfl rfl 121 _ Ht.out (by kernel_rfl) rfl (by simp [Value.oneCell',sv]) ?_;obtain ⟨w5,Hb,g5,b5⟩:=AP (cs:=#[int i64 3,int i64 0,sv [],int i64 0,.slice (some ⟨G,0,none⟩) 1 1,.slice none 0 0]) Ht.out (Below.refl XB w4) (qn _);have z5:w5.heap.size=G+1:=(by rw [← Hb,← uB.out];simp [World.setRow]);have y5:w5.heap[G]?=some (.cells #[int i64 1,int i64 0,sv un,int i64 0,.slice ja its.len jc,.slice ma ms.length mc] 121 (0,0)):=(by rw [← Hb];exact (setRow_other w4 XB G _ (by have:=Ha.out;omega)).trans HY.out);have hD:=qh (h1.out.keepB b5 hy.out.1 hy.out.2 HR);have uC:=qh g5;have uD:=qh y5;have ub:=qh z5;rw [Hb];clear g5 b5 z5 y5;clear st3;have st4:True:=trivial)
       | (have q:=st4;clear q;refine wpList_load_row rfl 121 _ rfl XB rfl 121 #[int i64 3,int i64 0,sv [],int i64 0,.slice (some ⟨G,0,none⟩) 1 1,.slice none 0 0] (0,0) _ uC.out Tryz.underlying121 rfl (by kernel_rfl) ?_;simp only [Act.put,qD,qE,qF];obtain ⟨w6,uE,g6,b6,z6⟩:=Ag w5 #[int i64 3,int i64 0,sv [],int i64 0,.slice (some ⟨G,0,none⟩) 1 1,.slice none 0 0] 121;have hM:=qh (hD.out.keep b6);have uF:=qh g6;have uG:=qh (Ah b6 uD.out);clear g6 b6 z6;clear st4;have st5:True:=trivial)
       | (at_builtin;(try rw [uE]);refine VT rfl _ _ 55 rfl E 121 i0 _ 6 88 Tryz.underlying55 HQ.out.1 HQ.out.2.1 HQ.out.2.2.1 HQ.out.2.2.2 rfl (by decide) _ L.length (L.flatMap feC) rfl hM.out.own (some ⟨w5.heap.size,0,none⟩) 1 1 [int i64 3,int i64 0,sv [],int i64 0,.slice (some ⟨G,0,none⟩) 1 1,.slice none 0 0] rfl rfl (λe=>by cases e) (λad e j v hj=>by cases e;rw [AN,Nat.zero_add];exact Aa uF.out j (by simpa using hj)) (λv hv=>by (simp only [List.mem_cons,List.not_mem_nil,or_false] at hv;rcases hv with rfl|rfl|rfl|rfl|rfl|rfl<;>rfl)) (by unfold maxLen;omega) (by omega) hM.out.top ?_;intro v5 w7 h2 h3 h4;have F7:=hM.out.app (M:=[⟨true,G,ja,jc,ma,mc,ms⟩]) (by have:=h2;rwa [show [int i64 3,int i64 0,sv [],int i64 0,.slice (some ⟨G,0,none⟩) 1 1,.slice none 0 0]=[(⟨true,G,ja,jc,ma,mc,ms⟩:XG)].flatMap feC by simp [feC]] at this) h3 h4 (λx hx=>by obtain rfl:=List.mem_singleton.1 hx;exact ⟨Hq true G,λ_=>⟨by have q1:=HE.out;have q2:=Ha.out;show W1.heap.size≤G;omega,λj v hj=>(by rw [Nat.zero_add];exact Aa uG.out j (by simpa [feI,HZ.out.1,HZ.out.2] using hj)),λe=>by have q1:G<XB:=hy.out.1 _ e;have q2:=Ha.out;omega⟩⟩);have uH:=qh F7;clear h2 h3 h4 F7))
      go_roundw
      case rel =>
       refine ⟨i+1,r,L++[⟨true,G,ja,jc,ma,mc,ms⟩],l-1,by go_num,by omega,by omega,λh=>by omega,λ_=>by omega,uH,by show Hid (ItOk s V b (o+(i+1)*6) r);rw [show o+(i+1)*6=o+i*6+6 by omega];exact hw,by simp;omega,qh λh=>?_⟩;have:=hJ.out (by omega);rw [← this];simp [Lt.bars,itB,AA,XG.bar]
      case measure=>first|omega|(simp [intOf];omega)
    ·-- a repeat
     obtain ⟨i0,q0,q1,q2,q3⟩:=Wg;have HQ:=qh (And.intro q0 (And.intro q1 (And.intro q2 q3)));clear q0 q1 q2 q3;obtain ⟨q,hq⟩:∃q:Nat,nn=q:=⟨nn.toNat,by omega⟩;subst hq;have k1:=Aa hQ.out 1 rfl;have HJ:L.length≤1000:=by omega
     have st1:True:=trivial
     go_wp2_with (first
      | (have q:=st1;clear q;refine Fc (by kernel_rfl) 121 _ rfl b (o+i*6) rfl _ _ ho.out Tryz.underlying121 rfl (by kernel_rfl) ?_;simp only [Act.put,qD,qE,qF];clear st1;have st2:True:=trivial))
     clear k0 k1 c3 cl fl st2;go_loopw [8,42] (λov jv wr=>∃(j:Nat) (L':List XG) (l':Int),jv=int i64 j∧j≤q∧l'≤l-1∧-(n:Int)*66-j≤l'∧Hid (XH s V W1 P E L' ov l' wr)∧Hid (wr.heap[XB]?=some (.cells #[int i64 2,int i64 (q:Nat),sv un,int i64 u,.slice ja its.len jc,.slice ma ms.length mc] 121 (0,0))∧∀g,ov.ownBlock=some g→g≠XB)∧L'.length+l'.toNat≤left.toNat∧Hid (0≤l'→L'.map XG.bar=L.map XG.bar++Cx j (AA turn (its.bars (AI s.strip) B)))) (λ_ jv _=>q+1-(intOf jv).toNat)
     case atStart=>exact ⟨0,L,l-1,rfl,Nat.zero_le _,Int.le_refl _,by omega,hL,qh ⟨hQ.out,λg hg e=>by have:=hy.out.1 g hg;omega⟩,by omega,qh λ_=>by simp [Cx]⟩
     case round =>
      obtain ⟨j,L',l',rfl,uI,uJ,uK,hr,h5,Hu,hY⟩:=hrel;by_cases uc:j<q
      ·have Hv:((j:Nat):Int)<(q:Int):=by omega
       have HC:=qh (HW.out its ja jc turn l' wr (hr.out.vis hf.out hP) hP hr.out.left (by omega) (by omega) hh.out.1 hh.out.2.1 hh.out.2.2);have k4:=Aa h5.out.1 4 rfl;have Hw:wr.heap[X]?=some (.cells s.cells 30 (0,0)):=(hr.out.base.block X (by rw [HE.out];exact HL) (by omega)).trans HX.out;have uL:=qh Hw;clear Hw;have uM:L'.length≤1000:=by omega
       have st2:True:=trivial
       go_wp2_with (first
        | (have q:=st2;clear q;refine wpList_load_row rfl 30 _ rfl X rfl 30 s.cells (0,0) _ uL.out Tryz.underlying30 rfl (by kernel_rfl) ?_;simp only [Act.put,qD,qE,qF];clear st2;have st3:True:=trivial)
        | (have q:=st3;clear q;go_at_call 21;refine HC.out.mono ?_;rintro e w5 ⟨M,ao,c,l2,rfl,hA⟩;have HA:=qh hA;have Hx:=hA.sum;have Hy:=hA.le;have uN:=hA.neg;have Hc:=hA.low;have hD:=qh (hr.out.call hA.base hA.cnt);clear hA;clear st3;have st4:True:=trivial)
        | (at_builtin;refine VT rfl _ _ 55 rfl E 121 i0 _ 6 88 Tryz.underlying55 HQ.out.1 HQ.out.2.1 HQ.out.2.2.1 HQ.out.2.2.2 rfl (by decide) _ L'.length (L'.flatMap feC) rfl hD.out.own ao M.length c (M.flatMap feC) rfl (Fm Wm M) HA.out.news.1 HA.out.news.2 (WF M) (by unfold maxLen;omega) (by omega) hD.out.top ?_;intro v6 w6 hZ hO hS;have hM:=qh (hr.out.join HA.out hZ hO hS);have Hz:=qh (And.intro hO hS);clear hZ hO hS))
       have Hd:XB<wr.heap.size:=(qs.1 h5.out.1).1;have ha:w5.heap[XB]?=wr.heap[XB]?:=HA.out.base.block XB Hd (by omega);have h6:XB<w5.heap.size:=Nat.lt_of_lt_of_le Hd HA.out.base.size;have h7:=(Hz.out.1.block XB h6 (λe=>h5.out.2 XB e.symm rfl)).trans (ha.trans h5.out.1)
       have uO:=qh (And.intro h7 (show ∀g,v6.ownBlock=some g→g≠XB from λg hg=>by
        rcases Hz.out.2 with h|h
        ·exact h5.out.2 g (h.symm.trans hg)
        ·rw [h] at hg;injection hg with hg;omega))
       clear Hd ha h6 h7;go_roundw
       case rel =>
        refine ⟨j+1,L'++M,l2,by go_num,by omega,by omega,?_,hM,uO,by rw [List.length_append];omega,qh λh=>?_⟩
        ·rcases Int.lt_or_le l' 0 with h|h
         ·have:=uN h;push_cast;omega
         ·have:=Hc h;push_cast;omega
        ·rw [List.map_append,HA.out.out h,hY.out (by omega),WC,List.append_assoc]
       case measure=>first|omega|(simp [intOf];omega)
      ·obtain rfl:j=q:=by omega
       have Hv:¬((j:Nat):Int)<(j:Int):=by omega
       go_wp2_with fail;go_roundw
       case rel =>
        refine ⟨i+1,r,L',l',by go_num,by omega,by omega,λh=>by omega,λ_=>by omega,hr,by show Hid (ItOk s V b (o+(i+1)*6) r);rw [show o+(i+1)*6=o+i*6+6 by omega];exact hw,by omega,qh λh=>?_⟩;have:=hJ.out (by omega);rw [← this,hY.out h];simp [Lt.bars,itB,J4,Ob]
       case measure=>first|omega|(simp [intOf];omega)
    ·-- a mirror
     obtain ⟨i0,q0,q1,q2,q3⟩:=Wg;have HQ:=qh (And.intro q0 (And.intro q1 (And.intro q2 q3)));clear q0 q1 q2 q3;have HC:=qh (HW.out its ja jc (!turn) (l-1) w3 (hL.out.vis hf.out hP) hP hL.out.left (by omega) (by omega) hh.out.1 hh.out.2.1 hh.out.2.2);have k4:=Aa hQ.out 4 rfl;have HJ:L.length≤1000:=by omega
     have st1:True:=trivial
     go_wp2_with (first
      | (have q:=st1;clear q;refine Fc (by kernel_rfl) 121 _ rfl b (o+i*6) rfl _ _ ho.out Tryz.underlying121 rfl (by kernel_rfl) ?_;simp only [Act.put,qD,qE,qF];clear st1;have st2:True:=trivial)
      | (have q:=st2;clear q;refine wpList_load_row rfl 30 _ rfl X rfl 30 s.cells (0,0) _ HH.out Tryz.underlying30 rfl (by kernel_rfl) ?_;simp only [Act.put,qD,qE,qF];clear st2;have st3:True:=trivial)
      | (have q:=st3;clear q;go_at_call 21;refine HC.out.mono ?_;rintro e w5 ⟨M,ao,c,l2,rfl,hA⟩;have HA:=qh hA;have Hx:=hA.sum;have Hy:=hA.le;have Hc:=hA.low (by omega);have hD:=qh (hL.out.call hA.base hA.cnt);clear hA;clear st3;have st4:True:=trivial)
      | (at_builtin;refine VT rfl _ _ 55 rfl E 121 i0 _ 6 88 Tryz.underlying55 HQ.out.1 HQ.out.2.1 HQ.out.2.2.1 HQ.out.2.2.2 rfl (by decide) _ L.length (L.flatMap feC) rfl hD.out.own ao M.length c (M.flatMap feC) rfl (Fm Wm M) HA.out.news.1 HA.out.news.2 (WF M) (by unfold maxLen;omega) (by omega) hD.out.top ?_;intro v6 w6 hZ hO hS;have hM:=qh (hL.out.join HA.out hZ hO hS);clear hZ hO hS))
     go_roundw
     case rel =>
      refine ⟨i+1,r,L++M,l2,by go_num,by omega,by omega,λh=>by omega,λ_=>by omega,hM,by show Hid (ItOk s V b (o+(i+1)*6) r);rw [show o+(i+1)*6=o+i*6+6 by omega];exact hw,by rw [List.length_append];omega,qh λh=>?_⟩;have:=hJ.out (by omega);rw [← this,List.map_append,HA.out.out h];simp [Lt.bars,itB,J4,Mc]
     case measure=>first|omega|(simp [intOf];omega)
    ·-- a use
     obtain ⟨i0,q0,q1,q2,q3⟩:=Wg;have HQ:=qh (And.intro q0 (And.intro q1 (And.intro q2 q3)));clear q0 q1 q2 q3;obtain ⟨j,hj⟩:∃j:Nat,s.strip.pnames.idxOf un=j:=⟨_,rfl⟩;have uP:u=(j:Int):=by rw [hu];unfold AI;rw [hj]
     have H0:s.strip.pnames.length=s.phrases.length:=by simp [Sc.pnames,Ls.strip]
     have H1:j<s.phrases.length:=by rw [← H0,← hj];exact List.idxOf_lt_length_iff.2 Hr
     obtain ⟨p,hp⟩:∃p,s.phrases[j]?=some p:=⟨_,qg H1⟩;obtain ⟨p1,p2,p3,p4⟩:=HS.out.ph j p hp;have H2:=HS.out.at_.pform.resolve_left (λe=>by rw [e] at hp;cases hp);have h8:=(Ct HS.out.at_.phrases hp).2;have hd:=HS.out.at_.plen;have uQ:=qh (show AI s.strip un=(j:Int) by unfold AI;rw [hj]);obtain ⟨np,He⟩:∃np,s.phrases.length=np:=⟨_,rfl⟩;rw [He] at H1 hd;unfold maxLen at hd;unfold Ph.val at h8
     have x10:w3.cell? ⟨X,10,none⟩=some (.slice (some ⟨blk s.fa,off s.fa,none⟩) np s.fc):=by
      rw [← H2,← He];exact Aa HH.out 10 rfl
     have pc:=Ad (hL.out.vis hf.out hP) h8;rw [HB.out] at p4;have uR:=qh p4;have k3:=Aa hQ.out 3 rfl;subst uP;have H3:Below w3.heap.size w3 w3.drew:=(Below.refl _ _).drew;have HK:=qh (hL.out.keep H3);have HC:=qh (HW.out p.its p.ia p.ic turn (l-1) w3.drew (HK.out.vis hf.out hP) hP HK.out.left (by omega) (by omega) p1 p2 p3);have HJ:L.length≤1000:=by omega
     have ud:¬((j:Nat):Int)<0:=by omega
     obtain ⟨FB,Hf⟩:∃g,blk s.fa=g:=⟨_,rfl⟩;obtain ⟨FO,Hg⟩:∃g,off s.fa=g:=⟨_,rfl⟩;rw [Hf,Hg] at x10 pc;rw [Hf,Hg] at h8;have Hh:=qh ((Aa HH.out 10 rfl).symm.trans x10);have H4:=qh (show ∀(L':List XG) (v':Value) (l':Int) (U:World),XH s V W1 P E L' v' l' U→U.heap[XB]?=some (.cells #[int i64 4,int i64 nn,sv un,int i64 (j:Nat),.slice ja its.len jc,.slice ma ms.length mc] 121 (0,0))→U.heap[X]?=some (.cells s.cells 30 (0,0))∧U.cell? ⟨XB,3,none⟩=some (int i64 (j:Nat))∧U.cell? ⟨FB,FO+j*2+1,none⟩=some (.slice p.ia p.its.len p.ic) from λ_ _ _ U hU hx=>⟨(hU.base.block X (by rw [HE.out];exact HL) (by omega)).trans HX.out,Aa hx 3 rfl,Ad (hU.vis hf.out hP) h8⟩);have Hv:((j:Nat):Int)<(np:Int):=by omega
     clear hp p1 p2 p3 p4 h8 hu Hr hj H0 H3 He H2 Hf Hg;have st1:True:=trivial
     go_wp2_with (first
      | (have q:=st1;clear q;refine Fc (by kernel_rfl) 121 _ rfl b (o+i*6) rfl _ _ ho.out Tryz.underlying121 rfl (by kernel_rfl) ?_;simp only [Act.put,qD,qE,qF];clear st1;have st2:True:=trivial))
     have hC:=qh (show (λV:World=>V.heap[X]?=some (.cells s.cells 30 (0,0))∧V.cell? ⟨XB,3,none⟩=some (int i64 (j:Nat))∧V.cell? ⟨FB,FO+j*2+1,none⟩=some (.slice p.ia p.its.len p.ic)) w3.drew from ⟨HH.out,k3,pc⟩);clear k3 pc x10;refine wp_region_held (S:=λV:World=>V.heap[X]?=some (.cells s.cells 30 (0,0))∧V.cell? ⟨XB,3,none⟩=some (int i64 (j:Nat))∧V.cell? ⟨FB,FO+j*2+1,none⟩=some (.slice p.ia p.its.len p.ic)) (by kernel_rfl) ?_;change wpAnyH _ _ _ _ _ _ _ _ w3.drew;refine tkS (i:=0) (oi:=_) (v:=u8) rfl (by kernel_rfl) (λ_ _ _ h=>h) (λV hb=>by go_simp) hC.out ?_
     try simp only [Act.put,qz]
     refine tq 1 _ (.agg s.cells) rfl (by kernel_rfl) (λ_ _ _ h=>h) (Cw rfl 30 _ rfl X rfl 30 s.cells (0,0) _ (λV hb=>hb.1) Tryz.underlying30 rfl (by kernel_rfl)) hC.out ?_
     try simp only [Act.put,qz]
     refine tkS (i:=2) (oi:=_) (v:=.pointer (some ⟨X,10,none⟩)) rfl (by kernel_rfl) (λ_ _ _ h=>h) (λV hb=>by go_simp) hC.out ?_
     try simp only [Act.put,qz]
     refine tkS (i:=3) (oi:=_) (v:=.slice (some ⟨FB,FO,none⟩) np s.fc) rfl (by kernel_rfl) (λ_ _ _ h=>h) (λV hb=>by have q0:=(Aa hb.1 10 rfl).trans Hh.out;go_simp) hC.out ?_
     try simp only [Act.put,qz]
     refine tkS (i:=4) (oi:=_) (v:=.pointer (some ⟨XB,2,none⟩)) rfl (by kernel_rfl) (λ_ _ _ h=>h) (λV hb=>by go_simp) hC.out ?_
     try simp only [Act.put,qz]
     refine tkS (i:=5) (oi:=_) (v:=.pointer (some ⟨XB,3,none⟩)) rfl (by kernel_rfl) (λ_ _ _ h=>h) (λV hb=>by go_simp) hC.out ?_
     try simp only [Act.put,qz]
     refine tkS (i:=6) (oi:=_) (v:=int i64 (j:Nat)) rfl (by kernel_rfl) (λ_ _ _ h=>h) (λV hb=>by have q0:=hb.2.1;go_simp) hC.out ?_
     try simp only [Act.put,qz]
     refine tkS (i:=7) (oi:=_) (v:=.pointer (some ⟨FB,FO+j*2,none⟩)) rfl (by kernel_rfl) (λ_ _ _ h=>h) (λV hb=>by go_simp) hC.out ?_
     try simp only [Act.put,qz]
     refine tkS (i:=8) (oi:=_) (v:=.pointer (some ⟨FB,FO+j*2+1,none⟩)) rfl (by kernel_rfl) (λ_ _ _ h=>h) (λV hb=>by go_simp) hC.out ?_
     try simp only [Act.put,qz]
     refine tkS (i:=9) (oi:=_) (v:=.slice p.ia p.its.len p.ic) rfl (by kernel_rfl) (λ_ _ _ h=>h) (λV hb=>by have q0:=hb.2.2;go_simp) hC.out ?_
     try simp only [Act.put,qz]
     refine tkS (i:=10) (oi:=_) (v:=.bool turn) rfl (by kernel_rfl) (λ_ _ _ h=>h) (λV hb=>by go_simp) hC.out ?_
     try simp only [Act.put,qz]
     refine tkS (i:=11) (oi:=_) (v:=.pointer (some ⟨P,0,none⟩)) rfl (by kernel_rfl) (λ_ _ _ h=>h) (λV hb=>by go_simp) hC.out ?_
     try simp only [Act.put,qz]
     refine tr 12 _ (by kernel_rfl) rfl λK1 hK=>?_
     go_simp;refine HC.out.mono ?_;rintro e w5 ⟨M,ao,c,l2,rfl,hA⟩;have HA:=qh hA;have Hx:=hA.sum;have Hy:=hA.le;have Hc:=hA.low (by omega);have hD:=qh (HK.out.call hA.base hA.cnt);have ha:w5.heap[XB]?=w3.heap[XB]?:=hA.base.block XB (show XB<w3.heap.size by have:=HF.out;omega) (by omega);have h9:(λV:World=>V.heap[X]?=some (.cells s.cells 30 (0,0))∧V.cell? ⟨XB,3,none⟩=some (int i64 (j:Nat))∧V.cell? ⟨FB,FO+j*2+1,none⟩=some (.slice p.ia p.its.len p.ic)) w5:=H4.out _ _ _ w5 hD.out (ha.trans hQ.out);clear hC hA ha;have hC:=qh h9;clear h9;refine hK.out _ _ hC.out (λ_=>?_);clear hK K1
     try simp only [Act.put,qz]
     refine tr 13 _ (by kernel_rfl) rfl λK1 hK=>?_
     rw [if_pos (by kernel_rfl)];refine Ww _ _ 55 rfl E 121 i0 _ 6 88 Tryz.underlying55 HQ.out.1 HQ.out.2.1 HQ.out.2.2.1 HQ.out.2.2.2 rfl (by decide) _ L.length (L.flatMap feC) rfl hD.out.own ao M.length c (M.flatMap feC) rfl (Fm Wm M) HA.out.news.1 HA.out.news.2 (WF M) (by unfold maxLen;omega) (by omega) hD.out.top ?_;intro v6 w6 hZ hO hS;have hM:=qh (HK.out.join HA.out hZ hO hS);have ha:w5.heap[XB]?=w3.heap[XB]?:=HA.out.base.block XB (show XB<w3.heap.size by have:=HF.out;omega) (by omega);have h6:XB<w5.heap.size:=Nat.lt_of_lt_of_le (show XB<w3.drew.heap.size by have:=HF.out;show XB<w3.heap.size;omega) HA.out.base.size;have h7:=(hO.block XB h6 (λe=>by have:=hy.out.1 XB e.symm;omega)).trans (ha.trans hQ.out);have h9:(λV:World=>V.heap[X]?=some (.cells s.cells 30 (0,0))∧V.cell? ⟨XB,3,none⟩=some (int i64 (j:Nat))∧V.cell? ⟨FB,FO+j*2+1,none⟩=some (.slice p.ia p.its.len p.ic)) w6:=H4.out _ _ _ w6 hM.out h7;clear hC hZ hO hS ha h7 h6;have hC:=qh h9;clear h9;refine hK.out _ _ hC.out (λ_=>?_);clear hK K1
     try simp only [Act.put,qz]
     refine tkS (i:=14) (oi:=_) (v:=v6) rfl (by kernel_rfl) (λ_ _ _ h=>h) (λV hb=>by go_simp) hC.out ?_
     try simp only [Act.put,qz]
     refine wpAnyH_done (by kernel_rfl) ?_ _;go_wp2_with fail;go_roundw
     case rel =>
      refine ⟨i+1,r,L++M,l2,by go_num,by omega,by omega,λh=>by omega,λ_=>by omega,hM,by show Hid (ItOk s V b (o+(i+1)*6) r);rw [show o+(i+1)*6=o+i*6+6 by omega];exact hw,by rw [List.length_append];omega,qh λh=>?_⟩;have:=hJ.out (by omega);rw [← this,List.map_append,HA.out.out h];simp [Lt.bars,itB,J4,uQ.out,uR.out]
     case measure=>first|omega|(simp [intOf];omega)
theorem WV(w:World)(xs ys:Array Value)(t:TypeId):∃W1,(w.alloc (.cells xs t)).alloc (.cells ys t)=W1∧W1.heap[w.heap.size]?=some (.cells xs t (0,0))∧W1.heap[w.heap.size+1]?=some (.cells ys t (0,0))∧Below w.heap.size w W1∧W1.heap.size=w.heap.size+2:=by
 refine ⟨_,rfl,(show ((w.alloc (.cells xs t)).alloc (.cells ys t)).heap[w.heap.size]?=(w.alloc (.cells xs t)).heap[w.heap.size]? from ((Below.refl _ (w.alloc (.cells xs t))).alloc (qn _) _).block _ (by simp)).trans (heap_alloc_new w _),?_,((Below.refl _ w).alloc (qn _) _).alloc (by simp) _,by simp⟩;have:=heap_alloc_new (w.alloc (.cells xs t)) (.cells ys t);simpa using this
theorem WZ{W:World}{b o:Nat}{v0 v1 v2 v3:Value}(h0:W.cell? ⟨b,o,none⟩=some v0)(h1:W.cell? ⟨b,o+1,none⟩=some v1)(h2:W.cell? ⟨b,o+2,none⟩=some v2)(h3:W.cell? ⟨b,o+3,none⟩=some v3):W.rangeAt b o [v0,v1,v2,v3]:=λu v hv=>by
 match u,hv with
 | 0,hv=>cases hv;exact h0
 | 1,hv=>cases hv;exact h1
 | 2,hv=>cases hv;exact h2
 | 3,hv=>cases hv;exact h3
 | n+4,hv=>simp at hv
theorem WU{W:World}{b o:Nat}{v0 v1 v2:Value}(h0:W.cell? ⟨b,o,none⟩=some v0)(h1:W.cell? ⟨b,o+1,none⟩=some v1)(h2:W.cell? ⟨b,o+2,none⟩=some v2):W.rangeAt b o [v0,v1,v2]:=λu v hv=>by
 match u,hv with
 | 0,hv=>cases hv;exact h0
 | 1,hv=>cases hv;exact h1
 | 2,hv=>cases hv;exact h2
 | n+3,hv=>simp at hv
theorem Xz:Tryz.prog.eqGuardType Tryz.prog.depth 34=false:=by kernel_rfl
theorem WM(x:Act)(o:Oper)(y z:Operand)(t:TypeId)(ho:o.op=.binOp .neq 34 y z t)(a b c:Int)(hx:x.eval y=.agg #[int i64 a,int i64 b,int i64 c])(hy:x.eval z=.agg #[int i64 a,int i64 b,int i64 c])(w:World):(execOp x.eval o).run Tryz.prog w=.ok (.value (.bool false)) w:=by
 have hS:Tryz.prog.underlying 34=some (.struct (Tryz.prog.fieldsOf 34)):=by kernel_rfl
 have hp:Tryz.prog.stoodInHeld 34=false:=by kernel_rfl
 have u3:=Tryz.underlying3;have q3:=Tryz.isAgg3;have z3:=Tryz.sizeOf3;unfold execOp;simp only [ho,hx,hy,Sem.run_bind,Sem.run_pure,run_eqGuard_agg w .neq 34 y z _ _ Xz,Result.andThen_ok,run_neq_struct];rw [show (10000:Nat)=9999+1 from rfl,run_equalIn_agg w 9999 34 _ _ hS hp];clear hS hp;simp only [Program.fieldsOf,Tryz.underlying34,Op.eqFields];go_simp
theorem XC:Tryz.prog.eqGuardType Tryz.prog.depth 76=false:=by kernel_rfl
theorem WO(x:Act)(o:Oper)(y z:Operand)(t:TypeId)(ho:o.op=.binOp .neq 76 y z t)(a b c:Int)(hx:x.eval y=.agg #[int i64 a,int i64 b,int i64 c])(hy:x.eval z=.agg #[int i64 a,int i64 b,int i64 c])(w:World):(execOp x.eval o).run Tryz.prog w=.ok (.value (.bool false)) w:=by
 have hS:Tryz.prog.underlying 76=some (.struct (Tryz.prog.fieldsOf 76)):=by kernel_rfl
 have hp:Tryz.prog.stoodInHeld 76=false:=by kernel_rfl
 have u3:=Tryz.underlying3;have q3:=Tryz.isAgg3;have z3:=Tryz.sizeOf3;unfold execOp;simp only [ho,hx,hy,Sem.run_bind,Sem.run_pure,run_eqGuard_agg w .neq 76 y z _ _ XC,Result.andThen_ok,run_neq_struct];rw [show (10000:Nat)=9999+1 from rfl,run_equalIn_agg w 9999 76 _ _ hS hp];clear hS hp;simp only [Program.fieldsOf,Tryz.underlying76,Op.eqFields];go_simp
theorem XD:Tryz.prog.eqGuardType Tryz.prog.depth 79=false:=by kernel_rfl
theorem WP(x:Act)(o:Oper)(y z:Operand)(t:TypeId)(ho:o.op=.binOp .neq 79 y z t)(a b c d:Int)(hx:x.eval y=.agg #[int i64 a,int i64 b,int i64 c,int i64 d])(hy:x.eval z=.agg #[int i64 a,int i64 b,int i64 c,int i64 d])(w:World):(execOp x.eval o).run Tryz.prog w=.ok (.value (.bool false)) w:=by
 have hS:Tryz.prog.underlying 79=some (.struct (Tryz.prog.fieldsOf 79)):=by kernel_rfl
 have hp:Tryz.prog.stoodInHeld 79=false:=by kernel_rfl
 have u3:=Tryz.underlying3;have q3:=Tryz.isAgg3;have z3:=Tryz.sizeOf3;unfold execOp;simp only [ho,hx,hy,Sem.run_bind,Sem.run_pure,run_eqGuard_agg w .neq 79 y z _ _ XD,Result.andThen_ok,run_neq_struct];rw [show (10000:Nat)=9999+1 from rfl,run_equalIn_agg w 9999 79 _ _ hS hp];clear hS hp;simp only [Program.fieldsOf,Tryz.underlying79,Op.eqFields];go_simp
theorem XE:Tryz.prog.eqGuardType Tryz.prog.depth 82=false:=by kernel_rfl
theorem WQ(x:Act)(o:Oper)(y z:Operand)(t:TypeId)(ho:o.op=.binOp .neq 82 y z t)(a b c d:Int)(hx:x.eval y=.agg #[int i64 a,int i64 b,int i64 c,int i64 d])(hy:x.eval z=.agg #[int i64 a,int i64 b,int i64 c,int i64 d])(w:World):(execOp x.eval o).run Tryz.prog w=.ok (.value (.bool false)) w:=by
 have hS:Tryz.prog.underlying 82=some (.struct (Tryz.prog.fieldsOf 82)):=by kernel_rfl
 have hp:Tryz.prog.stoodInHeld 82=false:=by kernel_rfl
 have u3:=Tryz.underlying3;have q3:=Tryz.isAgg3;have z3:=Tryz.sizeOf3;unfold execOp;simp only [ho,hx,hy,Sem.run_bind,Sem.run_pure,run_eqGuard_agg w .neq 82 y z _ _ XE,Result.andThen_ok,run_neq_struct];rw [show (10000:Nat)=9999+1 from rfl,run_equalIn_agg w 9999 82 _ _ hS hp];clear hS hp;simp only [Program.fieldsOf,Tryz.underlying82,Op.eqFields];go_simp
theorem XA:Tryz.prog.eqGuardType Tryz.prog.depth 73=false:=by kernel_rfl
theorem WN(x:Act)(o:Oper)(y z:Operand)(t:TypeId)(ho:o.op=.binOp .neq 73 y z t)(n:Nm)(b c d:Int)(hx:x.eval y=.agg #[sv n,int i64 b,int i64 c,int i64 d])(hy:x.eval z=.agg #[sv n,int i64 b,int i64 c,int i64 d])(w:World):(execOp x.eval o).run Tryz.prog w=.ok (.value (.bool false)) w:=by
 have hS:Tryz.prog.underlying 73=some (.struct (Tryz.prog.fieldsOf 73)):=by kernel_rfl
 have hp:Tryz.prog.stoodInHeld 73=false:=by kernel_rfl
 have u3:=Tryz.underlying3;have q3:=Tryz.isAgg3;have z3:=Tryz.sizeOf3;unfold execOp;simp only [ho,hx,hy,Sem.run_bind,Sem.run_pure,run_eqGuard_agg w .neq 73 y z _ _ XA,Result.andThen_ok,run_neq_struct];rw [show (10000:Nat)=9999+1 from rfl,run_equalIn_agg w 9999 73 _ _ hS hp];clear hS hp;simp only [Program.fieldsOf,Tryz.underlying73,Op.eqFields];go_simp
theorem Wv(bars:Int)(ts:List Tmp)(ps:List Pau)(xs:List Con)(a0 a1 a2 b0 b1 b2:Option Addr)(c0 c1 c2 d0 d1 d2:Nat)(w:World)
  (hC:IsRow C5 3 w (.slice a0 ts.length c0) ts) (hJ:IsRow C5 3 w (.slice b0 ts.length d0) ts) (hD:IsRow CY 4 w (.slice a1 ps.length c1) ps) (hL:IsRow CY 4 w (.slice b1 ps.length d1) ps) (hE:IsRow CW 4 w (.slice a2 xs.length c2) xs) (hM:IsRow CW 4 w (.slice b2 xs.length d2) xs) :
  Calls Tryz.prog 43 #[.agg #[int i64 bars,.slice a0 ts.length c0,.slice a1 ps.length c1,.slice a2 xs.length c2],.agg #[int i64 bars,.slice b0 ts.length d0,.slice b1 ps.length d1,.slice b2 xs.length d2]] w λe w'=>e=.returned (.bool true)∧Below w.heap.size w w':=by
 obtain ⟨W1,hN,hX,hY,hB,hS⟩:=WV w #[int i64 bars,.slice a0 ts.length c0,.slice a1 ps.length c1,.slice a2 xs.length c2] #[int i64 bars,.slice b0 ts.length d0,.slice b1 ps.length d1,.slice b2 xs.length d2] 36;have x0:=Aa hX 0 rfl;have y0:=Aa hY 0 rfl;have x1:=Aa hX 1 rfl;have y1:=Aa hY 1 rfl;have hO:=qh (And.intro x1 y1);clear x1 y1;have hV:=qh (hC.below hB (qn _)).parts;have hW:=qh (hJ.below hB (qn _)).parts;have hZ:ts.length≤maxLen:=by obtain ⟨_,_,_,h,_⟩:=hC.parts;exact h
 unfold maxLen at hZ;generalize hP:ts.length=nT at *;have ha:=qh hP;clear hP hC hJ;have x2:=Aa hX 2 rfl;have y2:=Aa hY 2 rfl;have hF:=qh (And.intro x2 y2);clear x2 y2;have hb:=qh (hD.below hB (qn _)).parts;have hc:=qh (hL.below hB (qn _)).parts;have hd:ps.length≤maxLen:=by obtain ⟨_,_,_,h,_⟩:=hD.parts;exact h
 unfold maxLen at hd;generalize hQ:ps.length=nP at *;have he:=qh hQ;clear hQ hD hL;have x3:=Aa hX 3 rfl;have y3:=Aa hY 3 rfl;have hG:=qh (And.intro x3 y3);clear x3 y3;have hf:=qh (hE.below hB (qn _)).parts;have hg:=qh (hM.below hB (qn _)).parts;have hh:xs.length≤maxLen:=by obtain ⟨_,_,_,h,_⟩:=hE.parts;exact h
 unfold maxLen at hh;generalize hR:xs.length=nC at *;have hi:=qh hR;clear hR hE hM;have H0:=qh (And.intro x0 y0);have HB:=qh hB;have hT:=qh hN;clear x0 y0 hX hY hB hN hS;go_enter Tryz.func43,Tryz.ntmps43;refine Ae (λK hK=>?_);have HK:=qh hK;clear hK;go_wp2_with fail;rw [hT.out];refine HK.out _ _ ?_;clear HK K hT;obtain ⟨x0,y0⟩:=H0.out;obtain ⟨x1,y1⟩:=hO.out;obtain ⟨x2,y2⟩:=hF.out;obtain ⟨x3,y3⟩:=hG.out;go_wp2_with fail;clear x0 y0 x1 y1 x2 y2 x3 y3;go_loopw [5] (λiv wr=>∃(i q:Nat),iv=int i64 i∧i≤nT∧wr=W1.drewN q) (λiv _=>nT+1-(intOf iv).toNat)
 case atStart=>exact ⟨0,0,rfl,Nat.zero_le _,rfl⟩
 case round =>
  obtain ⟨i0,q0,rfl,hj,rfl⟩:=hrel;obtain ⟨hx,hy⟩:=hO.out;by_cases hA:i0<nT
  ·have hU:(i0:Int)<(nT:Int):=by omega
   obtain ⟨p,hp⟩:∃p,ts[i0]?=some p:=⟨_,qg (by rw [ha.out];exact hA)⟩;obtain ⟨g1,o1,e1,_,k1⟩:=hV.out;obtain ⟨g2,o2,e2,_,k2⟩:=hW.out;have f1:=e1.resolve_left (λe=>by rw [e] at hp;simp at hp);have f2:=e2.resolve_left (λe=>by rw [e] at hp;simp at hp);have HA:=qh (k1 i0 p hp);have HC:=qh (k2 i0 p hp);rw [f1] at hx;rw [f2] at hy;clear e1 e2 k1 k2 hp f1 f2;go_wp2_with fail;refine AJ (λw2=>w2=(W1.drewN q0).drew) 10 (by kernel_rfl) (by kernel_rfl) rfl ?_;intro w2 hS;subst hS;simp only [List.take_succ_cons,List.take_zero,List.drop_succ_cons,List.drop_zero]
   iterate 4 still_step
   refine AF (by kernel_rfl) 76 _ rfl g1 (o1+i0*3) rfl _ _ HA.out Tryz.underlying76 rfl (by kernel_rfl) ?_
   try simp only [Act.put,qz]
   iterate 4 still_step
   refine AF (by kernel_rfl) 76 _ rfl g2 (o2+i0*3) rfl _ _ HC.out Tryz.underlying76 rfl (by kernel_rfl) ?_
   try simp only [Act.put,qz]
   refine wpStill_nil ?_;refine EQ (by kernel_rfl) _ (WO _ _ _ _ _ rfl _ _ _ rfl rfl _) ?_
   try simp only [Act.put,qz]
   go_wp2_with fail;go_roundw
   case rel=>exact ⟨i0+1,_,by go_num,by omega,rfl⟩
   case measure=>simp [intOf];omega
  ·obtain rfl:i0=nT:=by omega
   have hz:¬(i0:Int)<(i0:Int):=by omega
   obtain ⟨hH,hI⟩:=hF.out;go_wp2_with fail;clear hx hy hH hI hz;go_loopw [6] (λiv wr=>∃(i q:Nat),iv=int i64 i∧i≤nP∧wr=W1.drewN q) (λiv _=>nP+1-(intOf iv).toNat)
   case atStart=>exact ⟨0,q0,rfl,Nat.zero_le _,rfl⟩
   case round =>
    obtain ⟨i1,q1,rfl,hk,rfl⟩:=hrel;obtain ⟨hx,hy⟩:=hF.out;by_cases hA:i1<nP
    ·have hU:(i1:Int)<(nP:Int):=by omega
     obtain ⟨p,hp⟩:∃p,ps[i1]?=some p:=⟨_,qg (by rw [he.out];exact hA)⟩;obtain ⟨g1,o1,e1,_,k1⟩:=hb.out;obtain ⟨g2,o2,e2,_,k2⟩:=hc.out;have f1:=e1.resolve_left (λe=>by rw [e] at hp;simp at hp);have f2:=e2.resolve_left (λe=>by rw [e] at hp;simp at hp);have HA:=qh (k1 i1 p hp);have HC:=qh (k2 i1 p hp);rw [f1] at hx;rw [f2] at hy;clear e1 e2 k1 k2 hp f1 f2;go_wp2_with fail;refine AJ (λw2=>w2=(W1.drewN q1).drew) 10 (by kernel_rfl) (by kernel_rfl) rfl ?_;intro w2 hS;subst hS;simp only [List.take_succ_cons,List.take_zero,List.drop_succ_cons,List.drop_zero]
     iterate 4 still_step
     refine AF (by kernel_rfl) 79 _ rfl g1 (o1+i1*4) rfl _ _ HA.out Tryz.underlying79 rfl (by kernel_rfl) ?_
     try simp only [Act.put,qz]
     iterate 4 still_step
     refine AF (by kernel_rfl) 79 _ rfl g2 (o2+i1*4) rfl _ _ HC.out Tryz.underlying79 rfl (by kernel_rfl) ?_
     try simp only [Act.put,qz]
     refine wpStill_nil ?_;refine EQ (by kernel_rfl) _ (WP _ _ _ _ _ rfl _ _ _ _ rfl rfl _) ?_
     try simp only [Act.put,qz]
     go_wp2_with fail;go_roundw
     case rel=>exact ⟨i1+1,_,by go_num,by omega,rfl⟩
     case measure=>simp [intOf];omega
    ·obtain rfl:i1=nP:=by omega
     have hz:¬(i1:Int)<(i1:Int):=by omega
     obtain ⟨hH,hI⟩:=hG.out;go_wp2_with fail;clear hx hy hH hI hz;go_loopw [7] (λiv wr=>∃(i q:Nat),iv=int i64 i∧i≤nC∧wr=W1.drewN q) (λiv _=>nC+1-(intOf iv).toNat)
     case atStart=>exact ⟨0,q1,rfl,Nat.zero_le _,rfl⟩
     case round =>
      obtain ⟨i2,q2,rfl,hl,rfl⟩:=hrel;obtain ⟨hx,hy⟩:=hG.out;by_cases hA:i2<nC
      ·have hU:(i2:Int)<(nC:Int):=by omega
       obtain ⟨p,hp⟩:∃p,xs[i2]?=some p:=⟨_,qg (by rw [hi.out];exact hA)⟩;obtain ⟨g1,o1,e1,_,k1⟩:=hf.out;obtain ⟨g2,o2,e2,_,k2⟩:=hg.out;have f1:=e1.resolve_left (λe=>by rw [e] at hp;simp at hp);have f2:=e2.resolve_left (λe=>by rw [e] at hp;simp at hp);have HA:=qh (k1 i2 p hp);have HC:=qh (k2 i2 p hp);rw [f1] at hx;rw [f2] at hy;clear e1 e2 k1 k2 hp f1 f2;go_wp2_with fail;refine AJ (λw2=>w2=(W1.drewN q2).drew) 10 (by kernel_rfl) (by kernel_rfl) rfl ?_;intro w2 hS;subst hS;simp only [List.take_succ_cons,List.take_zero,List.drop_succ_cons,List.drop_zero]
       iterate 4 still_step
       refine AF (by kernel_rfl) 82 _ rfl g1 (o1+i2*4) rfl _ _ HA.out Tryz.underlying82 rfl (by kernel_rfl) ?_
       try simp only [Act.put,qz]
       iterate 4 still_step
       refine AF (by kernel_rfl) 82 _ rfl g2 (o2+i2*4) rfl _ _ HC.out Tryz.underlying82 rfl (by kernel_rfl) ?_
       try simp only [Act.put,qz]
       refine wpStill_nil ?_;refine EQ (by kernel_rfl) _ (WQ _ _ _ _ _ rfl _ _ _ _ rfl rfl _) ?_
       try simp only [Act.put,qz]
       go_wp2_with fail;go_roundw
       case rel=>exact ⟨i2+1,_,by go_num,by omega,rfl⟩
       case measure=>simp [intOf];omega
      ·obtain rfl:i2=nC:=by omega
       have hz:¬(i2:Int)<(i2:Int):=by omega
       go_wp2_with fail;go_ret;exact ⟨rfl,Aj HB.out _⟩
theorem WT(wd dp ta tb tc bars:Int)(rs:List Rol)(ts:List Tmp)(ps:List Pau)(xs:List Con)(ss:List Sgn)(a0 a1 a2 a3 a4 b0 b1 b2 b3 b4:Option Addr)(c0 c1 c2 c3 c4 d0 d1 d2 d3 d4:Nat)(w:World)
  (hE:IsRow D8 4 w (.slice a0 rs.length c0) rs) (hL:IsRow D8 4 w (.slice b0 rs.length d0) rs)
  (hM:IsRow C5 3 w (.slice a1 ts.length c1) ts) (hN:IsRow C5 3 w (.slice b1 ts.length d1) ts) (hO:IsRow CY 4 w (.slice a2 ps.length c2) ps) (hP:IsRow CY 4 w (.slice b2 ps.length d2) ps) (hQ:IsRow CW 4 w (.slice a3 xs.length c3) xs) (hR:IsRow CW 4 w (.slice b3 xs.length d3) xs)
  (hT:IsRow Ay 14 w (.slice a4 ss.length c4) ss) (hU:IsRow Ay 14 w (.slice b4 ss.length d4) ss) :
  Calls Tryz.prog 13 #[.agg #[int i64 wd,int i64 dp,int i64 ta,int i64 tb,int i64 tc,.slice a0 rs.length c0,int i64 bars,.slice a1 ts.length c1,.slice a2 ps.length c2,.slice a3 xs.length c3,.slice a4 ss.length c4],
   .agg #[int i64 wd,int i64 dp,int i64 ta,int i64 tb,int i64 tc,.slice b0 rs.length d0,int i64 bars,.slice b1 ts.length d1,.slice b2 ps.length d2,.slice b3 xs.length d3,.slice b4 ss.length d4]] w λe w'=>e=.returned (.bool true)∧Below w.heap.size w w':=by
 obtain ⟨W1,hV,hX,hY,hB,hS⟩:=WV w #[int i64 wd,int i64 dp,int i64 ta,int i64 tb,int i64 tc,.slice a0 rs.length c0,int i64 bars,.slice a1 ts.length c1,.slice a2 ps.length c2,.slice a3 xs.length c3,.slice a4 ss.length c4] #[int i64 wd,int i64 dp,int i64 ta,int i64 tb,int i64 tc,.slice b0 rs.length d0,int i64 bars,.slice b1 ts.length d1,.slice b2 ps.length d2,.slice b3 xs.length d3,.slice b4 ss.length d4] 39;have x0:=Aa hX 0 rfl;have y0:=Aa hY 0 rfl;have x1:=Aa hX 1 rfl;have y1:=Aa hY 1 rfl;have x2:=Aa hX 2 rfl;have y2:=Aa hY 2 rfl;have x3:=Aa hX 3 rfl;have y3:=Aa hY 3 rfl;have x4:=Aa hX 4 rfl;have y4:=Aa hY 4 rfl;have H0:=qh (And.intro (And.intro x0 y0) (And.intro x1 y1));have H2:=qh (And.intro (And.intro x2 y2) (And.intro (And.intro x3 y3) (And.intro x4 y4)));clear x0 y0 x1 y1 x2 y2 x3 y3 x4 y4;have x5:=Aa hX 5 rfl;have y5:=Aa hY 5 rfl;have hA:=qh (And.intro x5 y5);clear x5 y5;have x6:=Aa hX 6 rfl;have y6:=Aa hY 6 rfl;have x7:=Aa hX 7 rfl;have y7:=Aa hY 7 rfl;have x8:=Aa hX 8 rfl;have y8:=Aa hY 8 rfl;have x9:=Aa hX 9 rfl;have y9:=Aa hY 9 rfl;have hW:=qh (And.intro (And.intro (And.intro x6 y6) (And.intro x7 y7)) (And.intro (And.intro x8 y8) (And.intro x9 y9)));clear x6 y6 x7 y7 x8 y8 x9 y9;have x10:=Aa hX 10 rfl;have y10:=Aa hY 10 rfl;have hC:=qh (And.intro x10 y10);clear x10 y10;have CK:=qh (Wv bars ts ps xs a1 a2 a3 b1 b2 b3 c1 c2 c3 d1 d2 d3 W1 (hM.below hB (qn _)) (hN.below hB (qn _)) (hO.below hB (qn _)) (hP.below hB (qn _)) (hQ.below hB (qn _)) (hR.below hB (qn _)));have hF:=qh (hT.below hB (qn _));have hG:=qh (hU.below hB (qn _));have hh:rs.length≤maxLen:=by obtain ⟨_,_,_,h,_⟩:=hE.parts;exact h
 unfold maxLen at hh;have hH:=qh (hE.below hB (qn _));have hI:=qh (hL.below hB (qn _));clear hE hL hT hU hM hN hO hP hQ hR;generalize hi:ts.length=nT at *;generalize hj:ps.length=nP at *;generalize hk:xs.length=nC at *;clear hi hj hk;generalize hZ:ss.length=nS at *;have hJ:=qh hZ;clear hZ;generalize ha:rs.length=nR at *;have hl:=qh ha;clear ha;have HX:=qh (And.intro hX hY);have HB:=qh hB;have hc:=qh hV;clear hX hY hB hV hS;go_enter Tryz.func13,Tryz.ntmps13;refine Ae (λK hK=>?_);have HK:=qh hK;clear hK;go_wp2_with fail;rw [hc.out];refine HK.out _ _ ?_;clear HK K hc;obtain ⟨⟨x0,y0⟩,⟨x1,y1⟩⟩:=H0.out;obtain ⟨x5,y5⟩:=hA.out;obtain ⟨hX,hY⟩:=HX.out;have hd:=qh (show W1.rangeAt w.heap.size 2 [int i64 ta,int i64 tb,int i64 tc] from WU (Aa hX 2 rfl) (Aa hX 3 rfl) (Aa hX 4 rfl));have he:=qh (show W1.rangeAt (w.heap.size+1) 2 [int i64 ta,int i64 tb,int i64 tc] from WU (Aa hY 2 rfl) (Aa hY 3 rfl) (Aa hY 4 rfl));clear hX hY;obtain ⟨⟨⟨x6,y6⟩,⟨x7,y7⟩⟩,⟨⟨x8,y8⟩,⟨x9,y9⟩⟩⟩:=hW.out;have hf:=qh (show W1.rangeAt w.heap.size 6 [int i64 bars,.slice a1 nT c1,.slice a2 nP c2,.slice a3 nC c3] from WZ x6 x7 x8 x9);have hg:=qh (show W1.rangeAt (w.heap.size+1) 6 [int i64 bars,.slice b1 nT d1,.slice b2 nP d2,.slice b3 nC d3] from WZ y6 y7 y8 y9);clear x6 y6 x7 y7 x8 y8 x9 y9 hW;have st1:True:=trivial
 go_wp2_with (first
  | (have q:=st1;clear q;refine Fc (by kernel_rfl) 34 _ rfl w.heap.size 2 rfl _ _ hd.out Tryz.underlying34 rfl (by kernel_rfl) ?_;simp only [Act.put,qD,qE,qF];clear st1;have st2:True:=trivial)
  | (have q:=st2;clear q;refine Fc (by kernel_rfl) 34 _ rfl (w.heap.size+1) 2 rfl _ _ he.out Tryz.underlying34 rfl (by kernel_rfl) ?_;simp only [Act.put,qD,qE,qF];clear st2;have st3:True:=trivial)
  | (have q:=st3;clear q;refine EQ (by kernel_rfl) _ (WM _ _ _ _ _ rfl ta tb tc rfl rfl _) ?_;simp only [Act.put,qD,qE,qF];clear st3;have st4:True:=trivial)
  | (have q:=st4;clear q;refine Fc (by kernel_rfl) 36 _ rfl w.heap.size 6 rfl _ _ hf.out Tryz.underlying36 rfl (by kernel_rfl) ?_;simp only [Act.put,qD,qE,qF];clear st4;have st5:True:=trivial)
  | (have q:=st5;clear q;refine Fc (by kernel_rfl) 36 _ rfl (w.heap.size+1) 6 rfl _ _ hg.out Tryz.underlying36 rfl (by kernel_rfl) ?_;simp only [Act.put,qD,qE,qF];clear st5;have st6:True:=trivial)
  | (have q:=st6;clear q;go_at_call 43;refine CK.out.mono ?_;rintro e W2 ⟨rfl,hb⟩;have hm:=qh (show Below w.heap.size w W2 from Af HB.out hb);replace hH:=qh (hH.out.below hb (qn _));replace hI:=qh (hI.out.below hb (qn _));replace hF:=qh (hF.out.below hb (qn _));replace hG:=qh (hG.out.below hb (qn _));replace hA:=qh (And.intro (Ad hb hA.out.1) (Ad hb hA.out.2));replace hC:=qh (And.intro (Ad hb hC.out.1) (Ad hb hC.out.2));clear CK hd he hf hg hb HB x0 y0 x1 y1 x5 y5;obtain ⟨x5,y5⟩:=hA.out;clear st6;have st7:True:=trivial))
 clear x5 y5;have hn:=qh hH.out.parts;have ho:=qh hI.out.parts;go_loopw [5] (λiv wr=>∃(i q:Nat),iv=int i64 i∧i≤nR∧wr=W2.drewN q) (λiv _=>nR+1-(intOf iv).toNat)
 case atStart=>exact ⟨0,0,rfl,Nat.zero_le _,rfl⟩
 case round =>
  obtain ⟨i0,q0,rfl,hu,rfl⟩:=hrel;obtain ⟨hx,hy⟩:=hA.out;by_cases hq:i0<nR
  ·have hv:(i0:Int)<(nR:Int):=by omega
   obtain ⟨p,hp⟩:∃p,rs[i0]?=some p:=⟨_,qg (by rw [hl.out];exact hq)⟩;obtain ⟨g1,o1,e1,_,k1⟩:=hn.out;obtain ⟨g2,o2,e2,_,k2⟩:=ho.out;have f1:=e1.resolve_left (λe=>by rw [e] at hp;simp at hp);have f2:=e2.resolve_left (λe=>by rw [e] at hp;simp at hp);have HA:=qh (k1 i0 p hp);have HC:=qh (k2 i0 p hp);rw [f1] at hx;rw [f2] at hy;clear e1 e2 k1 k2 hp f1 f2;go_wp2_with fail;refine AJ (λw2=>w2=(W2.drewN q0).drew) 10 (by kernel_rfl) (by kernel_rfl) rfl ?_;intro w2 hS;subst hS;simp only [List.take_succ_cons,List.take_zero,List.drop_succ_cons,List.drop_zero]
   iterate 4 still_step
   refine AF (by kernel_rfl) 73 _ rfl g1 (o1+i0*4) rfl _ _ HA.out Tryz.underlying73 rfl (by kernel_rfl) ?_
   try simp only [Act.put,qz]
   iterate 4 still_step
   refine AF (by kernel_rfl) 73 _ rfl g2 (o2+i0*4) rfl _ _ HC.out Tryz.underlying73 rfl (by kernel_rfl) ?_
   try simp only [Act.put,qz]
   refine wpStill_nil ?_;refine EQ (by kernel_rfl) _ (WN _ _ _ _ _ rfl _ _ _ _ rfl rfl _) ?_
   try simp only [Act.put,qz]
   go_wp2_with fail;go_roundw
   case rel=>exact ⟨i0+1,_,by go_num,by omega,rfl⟩
   case measure=>simp [intOf];omega
  ·obtain rfl:i0=nR:=by omega
   have hz:¬(i0:Int)<(i0:Int):=by omega
   obtain ⟨x10,y10⟩:=hC.out;have hD:Below W2.heap.size W2 (W2.drewN q0):=Aj (Below.refl _ _) _;have hr:=qh (hF.out.below hD (qn _));have hs:=qh (hG.out.below hD (qn _));have ht:=qh (Af hm.out hD);clear hD;go_wp2_with fail;go_at_call 19;have CS:=Iu ss ss a4 b4 c4 d4 (W2.drewN q0) (by rw [hJ.out];exact hr.out) (by rw [hJ.out];exact hs.out);rw [hJ.out,decide_eq_true (rfl:ss=ss)] at CS;refine CS.mono ?_;rintro e W3 ⟨rfl,hb⟩;go_wp2_with fail;go_ret;exact ⟨rfl,Af ht.out hb⟩
theorem Xs:((List.range 128).all λp=>(List.range (p+1)).all λq=>decide (p=0)||(EF (mkA p q) (mkB p q) (mkC p q)&&decide (0≤mkA p q)&&decide (0≤mkB p q)))=true:=by kernel_rfl
theorem Xy{p q:Int}(hp:1≤p∧p≤127)(hq:0≤q∧q≤p):EF (mkA p q) (mkB p q) (mkC p q)=true∧0≤mkA p q∧0≤mkB p q:=by
 have h:=List.all_eq_true.1 (List.all_eq_true.1 Xs p.toNat (List.mem_range.2 (by omega))) q.toNat (List.mem_range.2 (by omega));have e1:((p.toNat:Nat):Int)=p:=by omega
 have e2:((q.toNat:Nat):Int)=q:=by omega
 rw [e1,e2,decide_eq_false (by omega),Bool.false_or] at h;simp only [Bool.and_eq_true,decide_eq_true_eq] at h;exact ⟨h.1.1,h.1.2,h.2⟩
theorem Wi{R:List (Nat×Nm)}{f:Nm→Int}{F:Int→List BarR}(hF:∀k,∀y∈F k,∀m∈y.ms,(Dh m.kind,m.wn)∈R):∀(T:Lt),(∀r∈T.strip.refs,r∈R)→∀y∈T.bars f F,∀m∈y.ms,(Dh m.kind,m.wn)∈R
 | .nil,_,y,hy=>by cases hy
 | .cons k n un ia ic its ma mc ms r,h,y,hy=>by
  have hA:=Wi (f:=f) hF its λx hx=>h x (by simp [Lt.strip,Its.refs,hx])
  simp only [Lt.bars,List.mem_append] at hy;rcases hy with hy|hy
  ·unfold itB at hy
   split at hy
   ·rcases List.mem_cons.1 hy with rfl|hy
    ·exact λm hm=>h _ (by simp only [Lt.strip,Its.refs,List.mem_cons,List.mem_append,List.mem_map];exact Or.inr (Or.inl ⟨m,hm,rfl⟩))
    ·cases hy
   ·split at hy
    ·exact hA y (Na hy)
    ·split at hy
     ·obtain ⟨z,hz,rfl⟩:=List.mem_map.1 hy
      exact hA z hz
     ·split at hy
      ·exact hF _ y hy
      ·cases hy
  ·exact Wi (f:=f) hF r (λx hx=>h x (by simp [Lt.strip,Its.refs,hx])) y hy
theorem Wx(s:Ls)(f:Nm→Int):∀(d:Nat) (k:Int),∀y∈JC s.ltsL f d k,∀m∈y.ms,(Dh m.kind,m.wn)∈s.strip.refs
 | 0,_,y,hy=>by cases hy
 | d+1,k,y,hy=>by
  unfold JC at hy
  split at hy
  ·cases ht:s.ltsL[k.toNat]? with
   | none=>rw [ht] at hy;cases hy
   | some t =>
    rw [ht] at hy;obtain ⟨p,hp,rfl⟩:=List.mem_map.1 (List.mem_of_getElem? ht);refine Wi (Wx s f d) p.its (λx hx=>?_) y hy;unfold Sc.refs;exact List.mem_append_left _ (List.mem_flatMap.2 ⟨p.strip,List.mem_map.2 ⟨p,hp,rfl⟩,hx⟩)
  ·cases hy
theorem WJ{R P:List Nm}:∀{rs:List (Nat×Nm)} {ns ks:List Int},Aw R P rs ns=some ks→∀r∈rs,(r.1=1→r.2∈R)∧(r.1=0→r.2=[])
 | [],_,_,_,r,h=>by cases h
 | x::rs,[],_,h,_,_=>by cases h
 | x::rs,n::ns,ks,h,r,hm=>by
  simp only [Aw] at h
  cases hr:Bu R P x n with
  | none=>rw [hr] at h;cases h
  | some k =>
   cases hA:Aw R P rs ns with
   | none=>rw [hr,hA] at h;cases h
   | some ks' =>
    rcases List.mem_cons.1 hm with rfl|hm
    ·unfold Bu at hr
     refine ⟨λh1=>?_,λh0=>?_⟩
     ·rw [if_neg (by omega),if_pos h1] at hr
      split at hr
      ·assumption
      ·cases hr
     ·rw [if_pos h0] at hr
      split at hr
      ·rename_i h2;exact h2.1
      ·cases hr
    ·exact WJ hA r hm
theorem Xq{n:Nm}(h:AG n=true):n≠[]:=by
 rintro rfl;simp [AG,BA] at h
theorem WY{m:Mov}{n roles:Int}(h:Cs m=true)(h1:m.kind=7∨m.kind=8→1≤LE m n∧LE m n≤roles)(h0:¬(m.kind=7∨m.kind=8)→LE m n=0)(b:Bool)(rl tt:Int):JK (Lb m n b rl tt) roles=true:=by
 unfold Cs Mi at h;simp only [Bool.and_eq_true] at h;obtain ⟨⟨k1,_⟩,k2,_⟩:=h;unfold JK Lb Ow;rcases MF k1 with e|e|e|e|e|e|e|e|e<;>rw [e] at k2 h1 h0<;>simp [Rt,Dw,suitTab,I7,inB] at k2<;>simp at h1 h0<;>cases b<;>simp [e,inB,Gl,NY,Jm,h0]<;>(try split)<;>(try split)<;>omega
theorem Xm{m:Mov}(h:Cs m=true)(n:Int)(b:Bool)(rl tt:Int):T8 (Lb m n b rl tt)=true:=by
 unfold Cs Mi at h;simp only [Bool.and_eq_true] at h;have h:=h.2.2;unfold E2 at h;simp only [Bool.and_eq_true] at h
 show (Bi m.fa m.fb&&Bi m.ta m.tb&&decide (0≤m.fa)&&decide (m.fa*m.tb<m.ta*m.fb)&&decide (m.ta≤m.tb))=true
 simp only [Bool.and_eq_true];exact ⟨⟨⟨h.1.1.1,h.1.2⟩,h.1.1.2⟩,h.2⟩
theorem Xd{m:Mov}{n rl tt roles bars:Int}(h:Cs m=true)(h1:m.kind=7∨m.kind=8→1≤LE m n∧LE m n≤roles)(h0:¬(m.kind=7∨m.kind=8)→LE m n=0)(hr:0≤rl∧rl≤roles-1)(ht:0≤tt∧tt≤bars-1)(b:Bool):F6 (Lb m n b rl tt) roles bars=true:=by
 have hf:=WY h h1 h0 b rl tt;have hA:=Xm h n b rl tt;unfold Cs Mi at h;simp only [Bool.and_eq_true] at h;obtain ⟨⟨k1,k3⟩,_⟩:=h
 have hk:inB (Lb m n b rl tt).kind 1 9=true:=by
  show inB m.kind 1 9=true
  rcases MF k1 with e|e|e|e|e|e|e|e|e<;>rw [e]<;>rfl
 have hm:inB (Lb m n b rl tt).mark 1 3=true:=k3;have h2:inB (Lb m n b rl tt).role 0 (roles-1)=true:=AM.2 hr;have h3:inB (Lb m n b rl tt).bar 0 (bars-1)=true:=AM.2 ht;unfold F6;rw [hk,h2,h3,hm,hf,hA]
 rfl
theorem Xk(x:Sgn)(k roles bars:Int):F6 { x with id:=k } roles bars=F6 x roles bars:=rfl
theorem WD{roles bars:Int}:∀(l:List Sgn) (k last:Int),last<k→k+l.length≤1048577→(∀x∈l,F6 x roles bars=true)→BU roles bars last (Qd k l)=true
 | [],_,_,_,_,_=>rfl
 | x::r,k,last,h1,h2,h=>by
  simp only [List.length_cons] at h2;rw [Qd,BU,WD r (k+1) k (by omega) (by omega) (λy hy=>h y (by simp [hy])),Bool.and_true];unfold Iw;rw [Xk,h x (by simp),decide_eq_true (by simpa using h1),decide_eq_true (by simp only;omega)]
  rfl
def Xf(s:Ls):Wrk:=⟨s.wd,s.dp,mkA s.t0 s.t1,mkB s.t0 s.t1,mkC s.t0 s.t1,s.roles,⟨s.bars,s.tempos,s.pauses,s.spans⟩,DP s⟩
theorem Xg{s:Ls}{ns:List Int}(hs:Bc s ns=0)(hr:s.roles≠[])(hl:(Fk s).length≤4096):Dc (Xf s)=0:=by
 obtain ⟨hc,hL⟩:=Le hs;obtain ⟨c1,c2,c3,c4,c5⟩:=E9 hc;have hD:=hL;unfold Iy at hD;simp only [Bool.and_eq_true,decide_eq_true_eq] at hD;obtain ⟨⟨b1,b2⟩,⟨b3,b4⟩,b5,b6,b7,b8,b9⟩:=hD;have hO:=Fh b6;have ht:=Xy (AM.1 b3) (AM.1 b4)
 have hB:(DP s).length≤4096:=by
  have e:(DP s).length=(IT s.bars.toNat (Fk s)).length:=by unfold DP;rw [Ws]
  have e2:(IT s.bars.toNat (Fk s)).length=(Fk s).length:=by
   have hR:=Qr hs;have:=List.Perm.length_eq (l₁:=IT s.bars.toNat (Fk s)) (l₂:=Fk s) ?_
   ·exact this
   ·refine List.perm_iff_count.2 λx=>?_
    have hf:=JE hR x
    have hC:∀l:List Sgn,l.count x=(l.filter (eqv C3 x)).count x:=λl=>by
     rw [List.count_filter (Df IR x)]
    rw [hC,hf,← hC]
  omega
 have hA:=(FE hc).1
 have hE:∀x∈Fk s,F6 x s.roles.length s.bars=true:=λx hx=>by
  have hF:=Qr hs x hx;unfold Fk at hx;obtain ⟨y,hy,hx⟩:=List.mem_flatMap.1 hx;obtain ⟨d,hd,rfl⟩:=List.mem_map.1 hy;have hJ:d.rn∈s.strip.rnames:=(WJ c5 (1,d.rn) (by unfold Sc.refs;exact List.mem_append_right _ (List.mem_flatMap.2 ⟨d,hd,by simp⟩))).1 rfl
  have hG:∀nm,nm∈s.strip.rnames→0≤I8 s.strip nm∧I8 s.strip nm≤s.roles.length-1:=λnm h=>by
   have:=List.idxOf_lt_length_iff.2 h;have e:s.strip.rnames.length=s.roles.length:=by simp [Sc.rnames,Ls.strip]
   unfold I8;omega
  have key:∀(tt:Int) (l:List BarR),(∀y∈l,y.ms.all Cs=true∧∀m∈y.ms,(Dh m.kind,m.wn)∈s.strip.refs)→∀x∈Bh (I8 s.strip) (I8 s.strip d.rn) tt l,0≤x.bar∧x.bar<s.bars.toNat→F6 x s.roles.length s.bars=true:=by
   intro tt l
   induction l generalizing tt with
   | nil=>intro _ x hx;cases hx
   | cons y r ih =>
    intro hl x hx hb;rw [Bh] at hx;rcases List.mem_append.1 hx with hx|hx
    ·unfold sgs at hx
     obtain ⟨m,hm,rfl⟩:=List.mem_map.1 hx;obtain ⟨k1,k2⟩:=hl y (by simp);have hH:=WJ c5 _ (k2 m hm);have e:(Lb m (I8 s.strip m.wn) y.mir (I8 s.strip d.rn) tt).bar=tt:=rfl;rw [e] at hb;refine Xd (List.all_eq_true.1 k1 m hm) (λh=>?_) (λh=>?_) (hG _ hJ) (by omega) _
     ·have hw:=hH.1 (by simp [Dh,h])
      have hK:m.wn≠[]:=by
       unfold Sc.named at c2;simp only [Bool.and_eq_true] at c2;exact Xq (List.all_eq_true.1 c2.2.1 _ hw)
      have:=hG m.wn hw;unfold LE;rw [if_neg hK];omega
     ·have hw:=hH.2 (by simp [Dh,h])
      unfold LE;rw [if_pos hw]
    ·exact ih (tt+1) (λz hz=>hl z (by simp [hz])) x hx hb
  refine key _ _ (λy hy=>?_) x hx hF;obtain ⟨z,hz,rfl⟩:=List.mem_map.1 hy;exact ⟨WK (Xr hs) _ _ z hz,Wx s _ _ _ z hz⟩
 have hM:BU s.roles.length s.bars (-1) (DP s)=true:=by
  have hI:=hB;unfold DP at hI ⊢;rw [Ws] at hI;refine WD _ 0 (-1) (by omega) (by omega) λx hx=>?_
  unfold IT at hx;obtain ⟨b,_,hx⟩:=List.mem_flatMap.1 hx;exact hE x (List.mem_filter.1 hx).1
 have hN:s.roles.all (FA s.wd s.dp)=true:=List.all_eq_true.2 λr hr=>by
  have:=List.all_eq_true.1 b5 r hr;unfold C6 at this;unfold FA;simp only [Bool.and_eq_true] at this ⊢;exact ⟨⟨this.1,this.2.1⟩,this.2.2⟩
 unfold Dc Fd Gx CN Xf;simp only;rw [decide_eq_true hA,decide_eq_true hB,b6,b1,b2,ht.1,decide_eq_true ht.2.1,decide_eq_true ht.2.2,decide_eq_true hr,hN,hM]
 rfl
end
end Go.Proofs.YtbkemlgfdklpfaaGreatDoor
