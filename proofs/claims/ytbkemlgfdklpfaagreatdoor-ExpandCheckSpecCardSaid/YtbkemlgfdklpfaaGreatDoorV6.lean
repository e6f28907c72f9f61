/- Contracts and plain laws on the way to the statement: part 6. -/
import Derived.Test.YtbkemlgfdklpfaaGreatDoorV2
import Derived.WalkKit
import Derived.Deep.Draws
import Derived.Lib.Hide
import Derived.Test.YtbkemlgfdklpfaaGreatDoorV4
set_option linter.unusedVariables false
set_option linter.unusedSimpArgs false
set_option maxRecDepth 100000
set_option maxHeartbeats 16000000
namespace Go.Proofs.YtbkemlgfdklpfaaGreatDoor
open Go.Value (int)
open Go.IntKind (i64)
section
open Go Go.RowKit
abbrev sv(s:Nm):Value:=.string ⟨s.toArray⟩
theorem TT{a b:Nm}(h:sv a=sv b):a=b:=by
  unfold sv at h;injection h with h;injection h with h;exact Array.toList_inj.2 h
def blk:Option Addr→Nat|some a=>a.block|none=>0
def off:Option Addr→Nat|some a=>a.off|none=>0
def ad(b o:Nat):Addr:=⟨b,o,none⟩
inductive Lt where
  | nil
  | cons (kind n:Int) (un:Nm) (ia:Option Addr) (ic:Nat) (its:Lt) (ma:Option Addr) (mc:Nat) (ms:List Mov) (rest:Lt)
def Lt.len:Lt→Nat
  | .nil=>0
  | .cons _ _ _ _ _ _ _ _ _ r=>r.len+1
def Lt.strip:Lt→Its
  | .nil=>.nil
  | .cons k n un _ _ its _ _ ms r=>.cons k n un its.strip ms r.strip
def Lt.size:Lt→Nat
  | .nil=>0
  | .cons _ _ _ _ _ its _ _ _ r=>its.size+r.size+1
theorem Lt.strip_len:∀T:Lt,T.strip.len=T.len
  | .nil=>rfl
  | .cons _ _ _ _ _ _ _ _ _ r=>by simp [Lt.strip,Its.len,Lt.len,r.strip_len]
structure RefL where
  b:Nat
  o:Nat
  to:Nat
  nm:Nm
def RefL.key(x:RefL):Nat×Nm:=(x.to,x.nm)
def As(b:Nat):Nat→List Mov→List RefL
  | _,[]=>[]
  | o,m::r=>⟨b,o+6,Dh m.kind,m.wn⟩::As b (o+12) r
def Lt.refsL:Lt→Nat→Nat→List RefL
  | .nil,_,_=>[]
  | .cons k _ un ia _ its ma _ ms r,b,o=>⟨b,o+2,By k,un⟩::(As (blk ma) (off ma) ms++(its.refsL (blk ia) (off ia)++r.refsL b (o+6)))
theorem Gc(b:Nat):∀(o:Nat) (ms:List Mov),(As b o ms).map RefL.key=ms.map λm=>(Dh m.kind,m.wn)
  | _,[]=>rfl
  | o,m::r=>by simp [As,RefL.key,Gc b (o+12) r]
theorem Lt.refsL_key:∀(T:Lt) (b o:Nat),(T.refsL b o).map RefL.key=T.strip.refs
  | .nil,_,_=>rfl
  | .cons k n un ia ic its ma mc ms r, b, o => by
    simp [Lt.refsL,Lt.strip,Its.refs,Gc,its.refsL_key,r.refsL_key,RefL.key]
def Be(w:World)(b:Nat):Nat→List Mov→Prop
  | _,[]=>True
  | o,m::r=>(w.cell? ⟨b,o,none⟩=some (int i64 m.mark)∧w.cell? ⟨b,o+1,none⟩=some (int i64 m.kind)∧w.cell? ⟨b,o+2,none⟩=some (int i64 m.side)∧w.cell? ⟨b,o+3,none⟩=some (int i64 m.dir)∧w.cell? ⟨b,o+4,none⟩=some (int i64 m.level)∧w.cell? ⟨b,o+5,none⟩=some (int i64 m.size)∧w.cell? ⟨b,o+6,none⟩=some (sv m.wn) ∧
      w.cell? ⟨b,o+8,none⟩=some (int i64 m.fa)∧w.cell? ⟨b,o+9,none⟩=some (int i64 m.fb)∧w.cell? ⟨b,o+10,none⟩=some (int i64 m.ta)∧w.cell? ⟨b,o+11,none⟩=some (int i64 m.tb))∧Be w b (o+12) r
def Lt.At(w:World):Lt→Nat→Nat→Prop
  | .nil,_,_=>True
  | .cons k n un ia ic its ma mc ms r, b, o =>
    (w.cell? ⟨b,o,none⟩=some (int i64 k)∧w.cell? ⟨b,o+1,none⟩=some (int i64 n)∧w.cell? ⟨b,o+2,none⟩=some (sv un)∧w.cell? ⟨b,o+4,none⟩=some (.slice ia its.len ic)∧w.cell? ⟨b,o+5,none⟩=some (.slice ma ms.length mc)) ∧
    ((ms=[]∨ma=some ⟨blk ma,off ma,none⟩)∧ms.length≤maxLen∧Be w (blk ma) (off ma) ms) ∧
    ((its.len=0∨ia=some ⟨blk ia,off ia,none⟩)∧its.len≤maxLen∧its.At w (blk ia) (off ia))∧r.At w b (o+6)
def NsAt(w:World):List RefL→List Int→Prop
  | [],[]=>True
  | x::xs,n::ns=>w.cell? ⟨x.b,x.o+1,none⟩=some (int i64 n)∧NsAt w xs ns
  | _,_=>False
theorem Cb{w w':World}{b:Nat}:∀{o:Nat} {ms:List Mov},Be w b o ms→(∀q v,o≤q→w.cell? ⟨b,q,none⟩=some v→w'.cell? ⟨b,q,none⟩=some v)→Be w' b o ms
  | _,[],_,_=>trivial
  | o, m :: r, ⟨⟨h0, h1, h2, h3, h4, h5, h6, h8, h9, h10, h11⟩, h⟩, hk =>
    ⟨⟨hk _ _ (qn _) h0,hk _ _ (by omega) h1,hk _ _ (by omega) h2,hk _ _ (by omega) h3,hk _ _ (by omega) h4,hk _ _ (by omega) h5,hk _ _ (by omega) h6,hk _ _ (by omega) h8,hk _ _ (by omega) h9,hk _ _ (by omega) h10,hk _ _ (by omega) h11⟩,
     Cb h λq v hq=>hk q v (by omega)⟩
def Lt.blocks:Lt→List Nat
  | .nil=>[]
  | .cons _ _ _ ia _ its ma _ ms r=>(if ms=[] then [] else [blk ma])++((if its.len=0 then [] else [blk ia])++(its.blocks++r.blocks))
theorem Lt.len_zero{T:Lt}(h:T.len=0):T=.nil:=by
  cases T with
  | nil=>rfl
  | cons=>simp [Lt.len] at h
theorem Lt.At.kept{w w':World}:∀{T:Lt} {b o:Nat},T.At w b o→(∀q v,o≤q→w.cell? ⟨b,q,none⟩=some v→w'.cell? ⟨b,q,none⟩=some v)→(∀c∈T.blocks,∀q v,w.cell? ⟨c,q,none⟩=some v→w'.cell? ⟨c,q,none⟩=some v)→T.At w' b o
  | .nil,_,_,_,_,_=>trivial
  | .cons k n un ia ic its ma mc ms r, b, o, ⟨⟨h0, h1, h2, h4, h5⟩, ⟨m1, m2, m3⟩, ⟨i1, i2, i3⟩, hr⟩, hk, hc => by
    refine ⟨⟨hk _ _ (qn _) h0,hk _ _ (by omega) h1,hk _ _ (by omega) h2,hk _ _ (by omega) h4,hk _ _ (by omega) h5⟩,⟨m1,m2,?_⟩,⟨i1,i2,?_⟩,kept hr (λq v hq=>hk q v (by omega)) (λc hA=>hc c (by simp [Lt.blocks,hA]))⟩
    · by_cases hm : ms = []
      · subst hm;trivial
      · exact Cb m3 λq v _=>hc _ (by simp [Lt.blocks,hm]) q v
    · by_cases hi : its.len = 0
      · rw [Lt.len_zero hi];trivial
      · exact kept i3 (λq v _=>hc _ (by simp [Lt.blocks,hi]) q v) (λc hA=>hc c (by simp [Lt.blocks,hA]))
theorem CN{w:World}{a:Addr}{v:Value}(h:w.cell? a=some v):a.block<w.heap.size:=by
  rcases Nat.lt_or_ge a.block w.heap.size with h1|h1
  · exact h1
  · unfold World.cell? at h;simp [Array.getElem?_eq_none h1] at h
theorem Ad{w w':World}(hb:Below w.heap.size w w'){a:Addr}{v:Value}(h:w.cell? a=some v):w'.cell? a=some v:=(hb.cell (CN h)).trans h
theorem Lt.At.below{w w':World}{T:Lt}{b o:Nat}(h:T.At w b o)(hb:Below w.heap.size w w'):T.At w' b o :=
  h.kept (λ_ _ _ h=>Ad hb h) (λ_ _ _ _ h=>Ad hb h)
theorem Cf{w w':World}{b o:Nat}{ms:List Mov}(h:Be w b o ms)(hb:Below w.heap.size w w'):Be w' b o ms:=Cb h λ_ _ _ h=>Ad hb h
theorem NsAt.kept{w w':World}:∀{xs:List RefL} {ns:List Int},NsAt w xs ns→(∀x∈xs,∀v,w.cell? ⟨x.b,x.o+1,none⟩=some v→w'.cell? ⟨x.b,x.o+1,none⟩=some v)→NsAt w' xs ns
  | [],[],_,_=>trivial
  | x::xs,n::ns,⟨h1,h2⟩,hk=>⟨hk x (by simp) _ h1,h2.kept λy hy=>hk y (by simp [hy])⟩
theorem NsAt.below{w w':World}{xs:List RefL}{ns:List Int}(h:NsAt w xs ns)(hb:Below w.heap.size w w'):NsAt w' xs ns:=h.kept λ_ _ _ h=>Ad hb h
theorem NsAt.append{w:World}:∀{xs ys:List RefL} {ns ks:List Int},NsAt w xs ns→NsAt w ys ks→NsAt w (xs++ys) (ns++ks)
  | [],_,[],_,_,h=>h
  | _::_,_,_::_,_,⟨h1,h2⟩,h=>⟨h1,h2.append h⟩
theorem NsAt.len{w:World}:∀{xs:List RefL} {ns:List Int},NsAt w xs ns→ns.length=xs.length
  | [],[],_=>rfl
  | _::_,_::_,⟨_,h⟩=>by simp [h.len]
theorem NsAt.split{w:World}:∀{xs ys:List RefL} {ns:List Int},NsAt w (xs++ys) ns→∃ks ls,ns=ks++ls∧NsAt w xs ks∧NsAt w ys ls
  | [],_,ns,h=>⟨[],ns,rfl,trivial,h⟩
  | x::xs,ys,[],h=>h.elim
  | x :: xs, ys, n :: ns, ⟨h1, h2⟩ => by
    obtain ⟨ks,ls,rfl,h3,h4⟩:=NsAt.split (xs:=xs) h2;exact ⟨n::ks,ls,rfl,⟨h1,h3⟩,h4⟩
def Lt.Sep(T:Lt)(b:Nat):Prop:=(b::T.blocks).Nodup
theorem BC{b:Nat}:∀{o:Nat} {ms:List Mov} {x:RefL},x∈As b o ms→x.b=b∧o+6≤x.o
  | _,[],_,h=>by cases h
  | o, m :: r, x, h => by
    rcases List.mem_cons.1 h with rfl|h
    · exact ⟨rfl,qn _⟩
    · have:=BC h;omega
theorem DW{b:Nat}{o:Nat}{ms:List Mov}{x:RefL}(h:x∈As b o ms):ms≠[]:=by
  rintro rfl;cases h
theorem Lt.refsL_mem:∀{T:Lt} {b o:Nat} {x:RefL},x∈T.refsL b o→(x.b=b∧o+2≤x.o)∨x.b∈T.blocks
  | .nil,_,_,_,h=>by cases h
  | .cons k n un ia ic its ma mc ms r, b, o, x, h => by
    simp only [Lt.refsL,List.mem_cons,List.mem_append] at h;rcases h with rfl|h|h|h
    · exact Or.inl ⟨rfl,qn _⟩
    · obtain ⟨h1, _⟩ := BC h
      exact Or.inr (by rw [h1];simp [Lt.blocks,DW h])
    · have hi : its.len ≠ 0 := fun e => by rw [Lt.len_zero e] at h; cases h
      rcases refsL_mem h with ⟨h1,_⟩|h1
      · exact Or.inr (by rw [h1];simp [Lt.blocks,hi])
      · exact Or.inr (by simp [Lt.blocks,h1])
    · rcases refsL_mem h with ⟨h1, h2⟩ | h1
      · exact Or.inl ⟨h1,by omega⟩
      · exact Or.inr (by simp [Lt.blocks,h1])
theorem Ac{w:World}{a c:Addr}{v u:Value}(h:w.cell? c=some u)(hA:a≠c):(w.setCell a v).cell? c=some u:=(World.cell?_setCell_other _ _ _ _ hA).trans h
theorem Aq{b o b' o':Nat}(h:b≠b'∨o≠o'):(⟨b,o,none⟩:Addr)≠⟨b',o',none⟩:=λe=>by injection e with e1 e2;omega
theorem J0{w:World}{b:Nat}{v:Value}:∀{o:Nat} {ms:List Mov} {x:RefL},x∈As b o ms→Be w b o ms→Be (w.setCell ⟨x.b,x.o+1,none⟩ v) b o ms
  | _,[],_,h,_=>by cases h
  | o, m :: r, x, h, ⟨⟨h0, h1, h2, h3, h4, h5, h6, h8, h9, h10, h11⟩, hr⟩ => by
    rcases List.mem_cons.1 h with rfl|h
    · refine ⟨⟨Ac h0 ?_,Ac h1 ?_,Ac h2 ?_,Ac h3 ?_,Ac h4 ?_,Ac h5 ?_,Ac h6 ?_,Ac h8 ?_,Ac h9 ?_,Ac h10 ?_,Ac h11 ?_⟩,Cb hr λq u hq hc=>Ac hc (Aq (by simp only;omega))⟩<;>exact Aq (by simp only;omega)
    · have hx := BC h
      refine ⟨⟨Ac h0 ?_,Ac h1 ?_,Ac h2 ?_,Ac h3 ?_,Ac h4 ?_,Ac h5 ?_,Ac h6 ?_,Ac h8 ?_,Ac h9 ?_,Ac h10 ?_,Ac h11 ?_⟩,J0 h hr⟩<;>exact Aq (by omega)
theorem Lt.at_set{w:World}{v:Value}:∀{T:Lt} {b o:Nat} {x:RefL},T.Sep b→x∈T.refsL b o→T.At w b o→T.At (w.setCell ⟨x.b,x.o+1,none⟩ v) b o
  | .nil,_,_,_,_,h,_=>by cases h
  | .cons k n un ia ic its ma mc ms r, b, o, x, hs, h, ⟨⟨h0, h1, h2, h4, h5⟩, ⟨m1, m2, m3⟩, ⟨i1, i2, i3⟩, hr⟩ => by
    have hI:=hs;unfold Lt.Sep at hs;simp only [Lt.blocks,List.nodup_cons,List.mem_append,not_or,List.nodup_append] at hs;obtain ⟨⟨n1,n2,n3,n4⟩,nm,⟨ni,⟨nb,nr,nbr⟩,nib⟩,nmb⟩:=hs;have hF:r.Sep b:=List.nodup_cons.2 ⟨n4,nr⟩;simp only [Lt.refsL,List.mem_cons,List.mem_append] at h;have mk:∀{c:Nat},(c=x.b→False)→∀q u,w.cell? ⟨c,q,none⟩=some u→(w.setCell ⟨x.b,x.o+1,none⟩ v).cell? ⟨c,q,none⟩=some u:=λhc q u hq=>Ac hq (Aq (Or.inl λe=>hc e.symm))
    have hC:(ms=[]∨blk ma≠x.b)→Be (w.setCell ⟨x.b,x.o+1,none⟩ v) (blk ma) (off ma) ms:=λhc=>by
      rcases hc with rfl|hc
      · trivial
      · exact Cb m3 λq u _=>mk hc q u
    have hD:(its.len=0∨(blk ia≠x.b∧x.b∉its.blocks))→its.At (w.setCell ⟨x.b,x.o+1,none⟩ v) (blk ia) (off ia):=λhc=>by
      rcases hc with hc|⟨hc,hd⟩
      · rw [Lt.len_zero hc];trivial
      · exact i3.kept (λq u _=>mk hc q u) λc hA=>mk λe=>hd (e▸hA)
    rcases h with rfl|h|h|h
    · refine ⟨⟨Ac h0 ?_, Ac h1 ?_, Ac h2 ?_, Ac h4 ?_, Ac h5 ?_⟩, ⟨m1, m2, hC ?_⟩, ⟨i1, i2, hD ?_⟩, hr.kept (fun q u hq hc => Ac hc (Aq (by simp only; omega))) fun c hA => mk fun e => n4 (by rw [show b = c from e.symm]; exact hA)⟩
      iterate 5 exact Aq (by simp only;omega)
      · by_cases hm : ms = []
        · exact Or.inl hm
        · right;rintro (rfl:blk ma=b);simp [hm] at n1
      · by_cases hi : its.len = 0
        · exact Or.inl hi
        · right;refine ⟨?_,n3⟩;rintro (rfl:blk ia=b);simp [hi] at n2
    · obtain ⟨e, _⟩ := BC h
      have hm:=DW h;simp only [if_neg hm,List.mem_singleton] at n1 nmb;have hE:b≠x.b:=by rw [e];exact n1
      refine ⟨⟨Ac h0 ?_,Ac h1 ?_,Ac h2 ?_,Ac h4 ?_,Ac h5 ?_⟩,⟨m1,m2,J0 h m3⟩,⟨i1,i2,hD ?_⟩,hr.kept (λq u _=>mk hE q u) λc hA=>mk λe2=>nmb _ rfl _ (Or.inr (Or.inr hA)) (by rw [← e,← e2])⟩
      iterate 5 exact Aq (by omega)
      · by_cases hi : its.len = 0
        · exact Or.inl hi
        · right
          simp only [if_neg hi,List.mem_singleton] at nmb;exact ⟨λe2=>nmb _ rfl _ (Or.inl rfl) (by rw [← e,e2]),λhc=>nmb _ rfl _ (Or.inr (Or.inl hc)) (by rw [← e])⟩
    · have hi : its.len ≠ 0 := fun e => by rw [Lt.len_zero e] at h; cases h
      simp only [if_neg hi,List.mem_singleton] at n2 nib nmb ni;have hG:its.Sep (blk ia):=List.nodup_cons.2 ⟨λhc=>nib _ rfl _ (Or.inl hc) rfl,nb⟩
      have hB:x.b=blk ia∨x.b∈its.blocks:=by
        rcases refsL_mem h with ⟨h1,_⟩|h1
        · exact Or.inl h1
        · exact Or.inr h1
      have hE:b≠x.b:=by
        rcases hB with e|e
        · rw [e];exact n2
        · intro e2;exact n3 (e2▸e)
      have hH:x.b∉r.blocks:=by
        rcases hB with e|e
        · rw [e];intro hc;exact nib _ rfl _ (Or.inr hc) rfl
        · intro hc;exact nbr _ e _ hc rfl
      refine ⟨⟨Ac h0 ?_,Ac h1 ?_,Ac h2 ?_,Ac h4 ?_,Ac h5 ?_⟩,⟨m1,m2,hC ?_⟩,⟨i1,i2,at_set hG h i3⟩,hr.kept (λq u _=>mk hE q u) λc hA=>mk λe2=>hH (e2▸hA)⟩
      iterate 5 exact Aq (by omega)
      · by_cases hm : ms = []
        · exact Or.inl hm
        · right
          simp only [if_neg hm,List.mem_singleton] at nmb;intro e2;rcases hB with e|e
          · exact nmb _ rfl _ (Or.inl rfl) (by rw [e2,e])
          · exact nmb _ rfl _ (Or.inr (Or.inl e)) e2
    · have hB := refsL_mem h
      have hJ:x.b=b→o+8≤x.o:=λe=>by
        rcases hB with ⟨_,h2⟩|h1
        · omega
        · exact absurd h1 (e▸n4)
      refine ⟨⟨Ac h0 ?_,Ac h1 ?_,Ac h2 ?_,Ac h4 ?_,Ac h5 ?_⟩,⟨m1,m2,hC ?_⟩,⟨i1,i2,hD ?_⟩,at_set hF h hr⟩
      iterate 5 exact Aq (by omega)
      · by_cases hm : ms = []
        · exact Or.inl hm
        · right
          simp only [if_neg hm,List.mem_singleton] at n1 nmb;intro e2;rcases hB with ⟨e,_⟩|e
          · exact n1 (by rw [e2,e])
          · exact nmb _ rfl _ (Or.inr (Or.inr e)) e2
      · by_cases hi : its.len = 0
        · exact Or.inl hi
        · right
          simp only [if_neg hi,List.mem_singleton] at n2 nib;rcases hB with ⟨e,_⟩|e
          · exact ⟨λe2=>n2 (by rw [e2,e]),λhc=>n3 (e▸hc)⟩
          · exact ⟨λe2=>nib _ rfl _ (Or.inr e) e2,λhc=>nbr _ hc _ e rfl⟩
def Cd(xs:List RefL):Prop:=xs.Pairwise λx y=>(⟨x.b,x.o+1,none⟩:Addr)≠⟨y.b,y.o+1,none⟩
theorem EH(b:Nat):∀(o:Nat) (ms:List Mov),Cd (As b o ms)
  | _,[]=>List.Pairwise.nil
  | o,m::r=>List.pairwise_cons.2 ⟨λy hy=>Aq (by have:=BC hy;simp only;omega),EH b (o+12) r⟩
theorem Lt.refsL_apart:∀{T:Lt} {b:Nat},T.Sep b→∀(o:Nat),Cd (T.refsL b o)
  | .nil,_,_,_=>List.Pairwise.nil
  | .cons k n un ia ic its ma mc ms r, b, hs, o => by
    unfold Lt.Sep at hs;simp only [Lt.blocks,List.nodup_cons,List.mem_append,not_or,List.nodup_append] at hs;obtain ⟨⟨n1,n2,n3,n4⟩,nm,⟨ni,⟨nb,nr,nbr⟩,nib⟩,nmb⟩:=hs;have hA:r.Sep b:=List.nodup_cons.2 ⟨n4,nr⟩
    have inI:∀{y:RefL},y∈its.refsL (blk ia) (off ia)→(y.b=blk ia∧blk ia∈(if its.len=0 then [] else [blk ia]))∨y.b∈its.blocks:=λ{y} hy=>by
      have hi:its.len≠0:=λe=>by rw [Lt.len_zero e] at hy;cases hy
      rcases refsL_mem hy with ⟨h1,_⟩|h1
      · exact Or.inl ⟨h1,by simp [hi]⟩
      · exact Or.inr h1
    have inM:∀{y:RefL},y∈As (blk ma) (off ma) ms→y.b=blk ma∧blk ma∈(if ms=[] then [] else [blk ma]):=λ{y} hy=>⟨(BC hy).1,by simp [DW hy]⟩
    refine List.pairwise_cons.2 ⟨λy hy=>?_,List.pairwise_append.2 ⟨EH _ _ _,List.pairwise_append.2 ⟨?_,refsL_apart hA _,λx hx y hy=>?_⟩,λx hx y hy=>?_⟩⟩
    · rcases List.mem_append.1 hy with hy | hy
      · obtain ⟨e, hm⟩ := inM hy
        exact Aq (Or.inl λe2=>n1 (by rw [show b=y.b from e2,e];exact hm))
      · rcases List.mem_append.1 hy with hy | hy
        · rcases inI hy with ⟨e, hm⟩ | e
          · exact Aq (Or.inl λe2=>n2 (by rw [show b=y.b from e2,e];exact hm))
          · exact Aq (Or.inl λe2=>n3 (by rw [show b=y.b from e2];exact e))
        · rcases refsL_mem hy with ⟨e, h2⟩ | e
          · exact Aq (by simp only;omega)
          · exact Aq (Or.inl λe2=>n4 (by rw [show b=y.b from e2];exact e))
    · by_cases hi : its.len = 0
      · rw [Lt.len_zero hi];exact List.Pairwise.nil
      · simp only [if_neg hi, List.mem_singleton] at nib
        exact refsL_apart (List.nodup_cons.2 ⟨λhc=>nib _ rfl _ (Or.inl hc) rfl,nb⟩) _
    · refine Aq (Or.inl fun e2 => ?_)
      rcases inI hx with ⟨e,hm⟩|e<;>rcases refsL_mem hy with ⟨e3,_⟩|e3
      · exact n2 (by rw [← e3,← e2,e];exact hm)
      · exact nib _ hm _ (Or.inr e3) (by rw [← e,e2])
      · exact n3 (by rw [← e3,← e2];exact e)
      · exact nbr _ e _ e3 e2
    · refine Aq (Or.inl fun e2 => ?_)
      obtain ⟨e,hm⟩:=inM hx;rcases List.mem_append.1 hy with hy|hy
      · rcases inI hy with ⟨e3, hB⟩ | e3
        · exact nmb _ hm _ (Or.inl hB) (by rw [← e,e2,e3])
        · exact nmb _ hm _ (Or.inr (Or.inl e3)) (by rw [← e,e2])
      · rcases refsL_mem hy with ⟨e3, _⟩ | e3
        · exact n1 (by rw [← e3,← e2,e];exact hm)
        · exact nmb _ hm _ (Or.inr (Or.inr e3)) (by rw [← e,e2])
theorem NsAt.set{w:World}{n:Int}:∀{xs ys:List RefL} {x:RefL} {ns ks:List Int} {m:Int},Cd (xs++x::ys)→NsAt w xs ns→NsAt w (x::ys) (m::ks) →
    NsAt (w.setCell ⟨x.b,x.o+1,none⟩ (int i64 n)) xs ns∧NsAt (w.setCell ⟨x.b,x.o+1,none⟩ (int i64 n)) (x::ys) (n::ks)
  | xs, ys, x, ns, ks, m, hp, h1, ⟨h2, h3⟩ => by
    obtain ⟨_,hA,hB⟩:=List.pairwise_append.1 hp;obtain ⟨hC,_⟩:=List.pairwise_cons.1 hA;exact ⟨h1.kept λy hy v hv=>Ac hv λe=>hB y hy x (by simp) e.symm,World.cell?_setCell_same _ _ _ h2,h3.kept λy hy v hv=>Ac hv (hC y hy)⟩
end
end Go.Proofs.YtbkemlgfdklpfaaGreatDoor
