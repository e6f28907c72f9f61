/- Contracts and plain laws on the way to the statement: part 1. -/
import Derived.Test.YtbkemlgfdklpfaaGreatDoorV4
set_option linter.unusedVariables false
set_option linter.unusedSimpArgs false
set_option maxRecDepth 100000
set_option maxHeartbeats 16000000
namespace Go.Proofs.YtbkemlgfdklpfaaGreatDoor
open Go.Value (int)
open Go.IntKind (i64)
section
section
variable {α:Type}
structure SwO(lt:α→α→Bool):Prop where
 as:∀{x y},lt x y=true→lt y x=false
 tr:∀{x y z},lt y x=false→lt z y=false→lt z x=false
theorem SwO.irr{lt:α→α→Bool}(h:SwO lt)(x:α):lt x x=false:=by
 cases e:lt x x with
 | false=>rfl
 | true=>have:=h.as e;rw [e] at this;exact this
def seg(X:Nat→α)(a n:Nat):List α:=(List.range' a n).map X
theorem Et(X:Nat→α)(a n m:Nat):seg X a (n+m)=seg X a n++seg X (a+n) m:=by
 unfold seg;rw [← List.map_append,List.range'_append_1]
theorem Jc{X Y:Nat→α}{a n:Nat}(h:∀i,a≤i→i<a+n→Y i=X i):seg Y a n=seg X a n:=by
 unfold seg;refine List.map_congr_left λi hi=>?_
 rw [List.mem_range'_1] at hi;exact h i hi.1 hi.2
theorem Jd{X Y:Nat→α}{a c n:Nat}(h:∀i,i<n→Y (a+i)=X (c+i)):seg Y a n=seg X c n:=by
 unfold seg;rw [List.range'_eq_map_range,List.range'_eq_map_range,List.map_map,List.map_map];refine List.map_congr_left λi hi=>?_
 exact h i (List.mem_range.1 hi)
theorem Gy{X:Nat→α}{a n:Nat}{x:α}:x∈seg X a n↔∃i,a≤i∧i<a+n∧X i=x:=by
 unfold seg;simp only [List.mem_map,List.mem_range'_1]
 constructor
 ·rintro ⟨i,⟨h1,h2⟩,h3⟩;exact ⟨i,h1,h2,h3⟩
 ·rintro ⟨i,h1,h2,h3⟩;exact ⟨i,⟨h1,h2⟩,h3⟩
def eqv(lt:α→α→Bool)(x y:α):Bool:=!lt x y&&!lt y x
def Srt(lt:α→α→Bool)(X:Nat→α)(a b:Nat):Prop:=∀i j,a≤i→i≤j→j<b→lt (X j) (X i)=false
structure Stb(lt:α→α→Bool)(X Y:Nat→α)(a b:Nat):Prop where
 out:∀i,i<a∨b≤i→Y i=X i
 cls:∀x,(seg Y a (b-a)).filter (eqv lt x)=(seg X a (b-a)).filter (eqv lt x)
theorem Stb.refl(lt:α→α→Bool)(X:Nat→α)(a b:Nat):Stb lt X X a b:=⟨λ_ _=>rfl,λ_=>rfl⟩
theorem Stb.trans{lt:α→α→Bool}{X Y Z:Nat→α}{a b:Nat}(h:Stb lt X Y a b)(k:Stb lt Y Z a b):Stb lt X Z a b :=
 ⟨λi hi=>(k.out i hi).trans (h.out i hi),λx=>(k.cls x).trans (h.cls x)⟩
theorem Stb.wide{lt:α→α→Bool}{X Y:Nat→α}{a b c d:Nat}(h:Stb lt X Y a b)(hc:c≤a)(hA:a≤b)(hd:b≤d):Stb lt X Y c d:=by
 refine ⟨λi hi=>h.out i (by omega),λx=>?_⟩;have e:d-c=(a-c)+((b-a)+(d-b)):=by omega
 have e1:c+(a-c)=a:=by omega
 have e2:a+(b-a)=b:=by omega
 rw [e,Et,Et,Et,Et,e1,e2];simp only [List.filter_append];rw [h.cls x,Jc (X:=X) (Y:=Y) (λi h1 h2=>h.out i (by omega)),Jc (X:=X) (Y:=Y) (a:=b) (λi h1 h2=>h.out i (by omega))]
theorem Stb.mem{lt:α→α→Bool}(hS:SwO lt){X Y:Nat→α}{a b:Nat}(h:Stb lt X Y a b){i:Nat}(h1:a≤i)(h2:i<b):∃j,a≤j∧j<b∧X j=Y i:=by
 have hm:Y i∈(seg Y a (b-a)).filter (eqv lt (Y i)):=by
  rw [List.mem_filter];exact ⟨Gy.2 ⟨i,h1,by omega,rfl⟩,by simp [eqv,hS.irr]⟩
 rw [h.cls,List.mem_filter] at hm;obtain ⟨j,h3,h4,h5⟩:=Gy.1 hm.1;exact ⟨j,h3,by omega,h5⟩
def rot(X:Nat→α)(a m b:Nat):Nat→α:=λk=>if a≤k∧k<a+(b-m) then X (k+(m-a)) else if a+(b-m)≤k∧k<b then X (k-(b-m)) else X k
theorem KV(X:Nat→α)(a m:Nat)(h:a≤m):rot X a m m=X:=by
 funext k;unfold rot
 split
 ·omega
 ·split
  ·congr 1;omega
  ·rfl
theorem Ja(X:Nat→α)(m b:Nat)(h:m≤b):rot X m m b=X:=by
 funext k;unfold rot
 split
 ·congr 1;omega
 ·split
  ·omega
  ·rfl
theorem N0{lt:α→α→Bool}{X:Nat→α}{a m b:Nat}(h1:a≤m)(h2:m≤b)(hx:∀p q,a≤p→p<m→m≤q→q<b→lt (X q) (X p)=true)(hS:SwO lt):Stb lt X (rot X a m b) a b:=by
 refine ⟨λi hi=>?_,λx=>?_⟩
 ·unfold rot
  rw [if_neg (by omega),if_neg (by omega)]
 ·have e1:b-a=(b-m)+(m-a):=by omega
  have e2:b-a=(m-a)+(b-m):=by omega
  rw [show seg (rot X a m b) a (b-a)=seg X m (b-m)++seg X a (m-a) from by
   rw [e1,Et];rw [Jd (Y:=rot X a m b) (X:=X) (a:=a) (c:=m) (n:=b-m) (λi hi=>by unfold rot;rw [if_pos (by omega)];congr 1;omega)]
   rw [Jd (Y:=rot X a m b) (X:=X) (a:=a+(b-m)) (c:=a) (n:=m-a) (λi hi=>by unfold rot;rw [if_neg (by omega),if_pos (by omega)];congr 1;omega)]]
  rw [show seg X a (b-a)=seg X a (m-a)++seg X m (b-m) from by rw [e2,Et];congr 2;omega];simp only [List.filter_append];by_cases hA:(seg X a (m-a)).filter (eqv lt x)=[]
  ·rw [hA];simp
  ·by_cases hB:(seg X m (b-m)).filter (eqv lt x)=[]
   ·rw [hB];simp
   ·exfalso
    obtain ⟨p,hp⟩:=List.exists_mem_of_ne_nil _ hA;obtain ⟨q,hq⟩:=List.exists_mem_of_ne_nil _ hB;rw [List.mem_filter] at hp hq;obtain ⟨i,i1,i2,i3⟩:=Gy.1 hp.1;obtain ⟨j,j1,j2,j3⟩:=Gy.1 hq.1;have h3:=hx i j i1 (by omega) j1 (by omega);rw [i3,j3] at h3;have ep:=hp.2;have eq:=hq.2;simp only [eqv,Bool.and_eq_true,Bool.not_eq_true'] at ep eq;have:=hS.tr (x:=p) (y:=x) (z:=q) ep.1 eq.2;rw [this] at h3;cases h3
def swp(X:Nat→α)(i j:Nat):Nat→α:=λk=>if k=i then X j else if k=j then X i else X k
theorem Se(X:Nat→α)(j:Nat):swp X j (j+1)=rot X j (j+1) (j+2):=by
 funext k;unfold swp rot
 split
 ·rw [if_pos (by omega)];congr 1;omega
 ·split
  ·rw [if_neg (by omega),if_pos (by omega)];congr 1;omega
  ·rw [if_neg (by omega),if_neg (by omega)]
theorem L8(X:Nat→α)(i j:Nat):swp X i j=swp X j i:=by
 funext k;unfold swp
 by_cases h1:k=i
 ·by_cases h2:k=j
  ·rw [if_pos h1,if_pos h2,← h1,← h2]
  ·rw [if_pos h1,if_neg h2,if_pos h1]
 ·by_cases h2:k=j
  ·rw [if_neg h1,if_pos h2,if_pos h2]
  ·rw [if_neg h1,if_neg h2,if_neg h2,if_neg h1]
theorem Sf{lt:α→α→Bool}{X:Nat→α}{a b j:Nat}(hS:SwO lt)(h1:a≤j)(h2:j+1<b)(h:lt (X (j+1)) (X j)=true):Stb lt X (swp X j (j+1)) a b:=by
 rw [Se];refine (N0 (a:=j) (b:=j+2) (by omega) (by omega) (λp q p1 p2 q1 q2=>?_) hS).wide h1 (by omega) (by omega);obtain rfl:p=j:=by omega
 obtain rfl:q=p+1:=by omega
 exact h
def InsJ(lt:α→α→Bool)(X:Nat→α)(a i j:Nat):Prop:=∀p q,a≤p→p<q→q≤i→q≠j→lt (X q) (X p)=false
theorem InsJ.start{lt:α→α→Bool}{X:Nat→α}{a i:Nat}(h:Srt lt X a i):InsJ lt X a i i:=λp q h1 h2 h3 h4=>h p q h1 (by omega) (by omega)
theorem InsJ.step{lt:α→α→Bool}{X:Nat→α}{a i j:Nat}(hS:SwO lt)(h:InsJ lt X a i (j+1))(h1:a≤j)(hl:lt (X (j+1)) (X j)=true):InsJ lt (swp X j (j+1)) a i j:=by
 intro p q p1 p2 p3 p4;unfold swp;by_cases e1:q=j
 ·exact absurd e1 p4
 ·rw [if_neg e1]
  by_cases e2:q=j+1
  ·rw [if_pos e2]
   by_cases e3:p=j
   ·rw [if_pos e3];exact hS.as hl
   ·rw [if_neg e3,if_neg (by omega)];exact h p j p1 (by omega) (by omega) (by omega)
  ·rw [if_neg e2]
   by_cases e3:p=j
   ·rw [if_pos e3];exact h (j+1) q (by omega) (by omega) p3 e2
   ·rw [if_neg e3]
    by_cases e4:p=j+1
    ·rw [if_pos e4];exact h j q h1 (by omega) p3 e2
    ·rw [if_neg e4];exact h p q p1 p2 p3 e2
theorem InsJ.done{lt:α→α→Bool}{X:Nat→α}{a i j:Nat}(hS:SwO lt)(h:InsJ lt X a i j)(hj:j≤i)(hl:j=a∨(a<j∧lt (X j) (X (j-1))=false)):Srt lt X a (i+1):=by
 intro p q p1 p2 p3;by_cases e:p=q
 ·rw [e];exact hS.irr _
 ·by_cases e2:q=j
  ·rcases hl with e3|⟨e3,e4⟩
   ·omega
   ·subst e2
    by_cases e5:p=q-1
    ·rw [e5];exact e4
    ·exact hS.tr (h p (q-1) p1 (by omega) (by omega) (by omega)) e4
  ·exact h p q p1 (by omega) (by omega) e2
theorem Srt.one{lt:α→α→Bool}(hS:SwO lt)(X:Nat→α)(a:Nat):Srt lt X a (a+1):=λi j h1 h2 h3=>by
 obtain rfl:i=j:=by omega
 exact hS.irr _
theorem Srt.part{lt:α→α→Bool}{X:Nat→α}{a b c d:Nat}(h:Srt lt X a b)(h1:a≤c)(h2:d≤b):Srt lt X c d:=λi j i1 i2 i3=>h i j (by omega) i2 (by omega)
theorem Srt.congr{lt:α→α→Bool}{X Y:Nat→α}{a b:Nat}(h:Srt lt X a b)(e:∀i,a≤i→i<b→Y i=X i):Srt lt Y a b:=λi j i1 i2 i3=>by
 rw [e i i1 (by omega),e j (by omega) i3];exact h i j i1 i2 i3
theorem Srt.join{lt:α→α→Bool}{X:Nat→α}{a m b:Nat}(h:Srt lt X a m)(k:Srt lt X m b)(x:∀p q,a≤p→p<m→m≤q→q<b→lt (X q) (X p)=false):Srt lt X a b:=λi j i1 i2 i3=>by
 by_cases e1:j<m
 ·exact h i j i1 i2 e1
 ·by_cases e2:i<m
  ·exact x i j i1 e2 (by omega) i3
  ·exact k i j (by omega) i2 i3
structure CutOk(lt:α→α→Bool)(X:Nat→α)(a s m e b:Nat):Prop where
 ord:a≤s∧s≤m∧m≤e∧e≤b
 low:Srt lt X a m
 upp:Srt lt X m b
 bef:∀p q,s≤p→p<m→m≤q→q<e→lt (X q) (X p)=true
 aft:∀p q,a≤p→p<s→e≤q→q<b→lt (X q) (X p)=false
 more:∀p q,a≤p→p<s→m≤q→q<e→True
theorem CutOk.stb{lt:α→α→Bool}{X:Nat→α}{a s m e b:Nat}(hS:SwO lt)(h:CutOk lt X a s m e b):Stb lt X (rot X s m e) a b :=
 (N0 h.ord.2.1 h.ord.2.2.1 h.bef hS).wide h.ord.1 (by have:=h.ord;omega) h.ord.2.2.2
theorem Mf(X:Nat→α){a m b k:Nat}(h:k<a):rot X a m b k=X k:=by unfold rot;rw [if_neg (by omega),if_neg (by omega)]
theorem JT(X:Nat→α){a m b k:Nat}(h0:a≤m∧m≤b)(h:b≤k):rot X a m b k=X k:=by unfold rot;rw [if_neg (by omega),if_neg (by omega)]
theorem GG(X:Nat→α){a m b k:Nat}(h:a≤k)(h2:k<a+(b-m)):rot X a m b k=X (k+(m-a)):=by unfold rot;rw [if_pos ⟨h,h2⟩]
theorem Fx(X:Nat→α){a m b k:Nat}(h:a+(b-m)≤k)(h2:k<b):rot X a m b k=X (k-(b-m)):=by unfold rot;rw [if_neg (by omega),if_pos ⟨h,h2⟩]
theorem CutOk.s1{lt:α→α→Bool}{X:Nat→α}{a s m e b:Nat}(h:CutOk lt X a s m e b):Srt lt (rot X s m e) a s :=
 (h.low.part (qn _) h.ord.2.1).congr λi _ i2=>Mf X i2
theorem CutOk.s2{lt:α→α→Bool}{X:Nat→α}{a s m e b:Nat}(h:CutOk lt X a s m e b):Srt lt (rot X s m e) s (s+(e-m)):=λi j i1 i2 i3=>by
 have:=h.ord;rw [GG X i1 (by omega),GG X (by omega) i3];exact h.upp _ _ (by omega) (by omega) (by omega)
theorem CutOk.s3{lt:α→α→Bool}{X:Nat→α}{a s m e b:Nat}(h:CutOk lt X a s m e b):Srt lt (rot X s m e) (s+(e-m)) e:=λi j i1 i2 i3=>by
 have:=h.ord;rw [Fx X i1 (by omega),Fx X (by omega) i3];exact h.low _ _ (by omega) (by omega) (by omega)
theorem CutOk.s4{lt:α→α→Bool}{X:Nat→α}{a s m e b:Nat}(h:CutOk lt X a s m e b):Srt lt (rot X s m e) e b :=
 (h.upp.part h.ord.2.2.1 (qn _)).congr λi i1 _=>JT X ⟨h.ord.2.1,h.ord.2.2.1⟩ i1
theorem CutOk.half{lt:α→α→Bool}{X:Nat→α}{a s m e b:Nat}(hS:SwO lt)(h:CutOk lt X a s m e b):∀p q,a≤p→p<s+(e-m)→s+(e-m)≤q→q<b→lt (rot X s m e q) (rot X s m e p)=false:=by
 intro p q p1 p2 q1 q2;have o:=h.ord;by_cases hp:p<s
 ·rw [Mf X hp]
  by_cases hq:q<e
  ·rw [Fx X q1 hq];exact h.low _ _ p1 (by omega) (by omega)
  ·rw [JT X ⟨o.2.1,o.2.2.1⟩ (by omega)];exact h.aft _ _ p1 hp (by omega) q2
 ·rw [GG X (by omega) p2]
  by_cases hq:q<e
  ·rw [Fx X q1 hq]
   exact hS.as (h.bef _ _ (by omega) (by omega) (by omega) (by omega))
  ·rw [JT X ⟨o.2.1,o.2.2.1⟩ (by omega)];exact h.upp _ _ (by omega) (by omega) q2
theorem Nt{lt:α→α→Bool}{X Y Z:Nat→α}{a d b:Nat}(hS:SwO lt)(hd:a≤d∧d≤b)(h:∀p q,a≤p→p<d→d≤q→q<b→lt (X q) (X p)=false)
  (k1:Stb lt X Y a d) (s1:Srt lt Y a d) (k2:Stb lt Y Z d b) (s2:Srt lt Z d b):Stb lt X Z a b∧Srt lt Z a b:=by
 refine ⟨(k1.wide (qn _) hd.1 hd.2).trans (k2.wide hd.1 hd.2 (qn _)),Srt.join (s1.congr λi _ i2=>k2.out i (Or.inl i2)) s2 λp q p1 p2 q1 q2=>?_⟩;obtain ⟨q',a1,a2,a3⟩:=k2.mem hS q1 q2;rw [← a3,k2.out p (Or.inl p2)];obtain ⟨p',b1,b2,b3⟩:=k1.mem hS p1 p2;rw [← b3,k1.out q' (Or.inr a1)];exact h p' q' b1 b2 a1 a2
structure SrchOk(lt:α→α→Bool)(X:Nat→α)(lo hi n s r:Nat):Prop where
 ord:lo≤s∧s≤r∧r≤hi
 bel:∀c,lo≤c→c<s→lt (X (n-1-c)) (X c)=false
 abv:∀c,r≤c→c<hi→lt (X (n-1-c)) (X c)=true
theorem SrchOk.up{lt:α→α→Bool}{X:Nat→α}{lo hi n s r c a m b:Nat}(hS:SwO lt)(h:SrchOk lt X lo hi n s r)(hl:Srt lt X a m)(hu:Srt lt X m b)(h1:s≤c)(h2:c<r)(hr:a≤lo∧hi≤m)(hn:∀c,lo≤c→c<hi→m≤n-1-c∧n-1-c<b)(ht:lt (X (n-1-c)) (X c)=false):SrchOk lt X lo hi n (c+1) r:=by
 refine ⟨by have:=h.ord;omega,λd d1 d2=>?_,h.abv⟩;have o:=h.ord;have n1:=hn d d1 (by omega);have n2:=hn c (by omega) (by omega);exact hS.tr (hS.tr (hl d c (by omega) (by omega) (by omega)) ht) (hu (n-1-c) (n-1-d) n2.1 (by omega) n1.2)
theorem SrchOk.dn{lt:α→α→Bool}{X:Nat→α}{lo hi n s r c a m b:Nat}(hS:SwO lt)(h:SrchOk lt X lo hi n s r)(hl:Srt lt X a m)(hu:Srt lt X m b)(h1:s≤c)(h2:c<r)(hr:a≤lo∧hi≤m)(hn:∀c,lo≤c→c<hi→m≤n-1-c∧n-1-c<b)(ht:lt (X (n-1-c)) (X c)=true):SrchOk lt X lo hi n s c:=by
 refine ⟨by have:=h.ord;omega,h.bel,λd d1 d2=>?_⟩;have o:=h.ord;have n1:=hn d (by omega) d2;have n2:=hn c (by omega) (by omega);have l1:=hl c d (by omega) d1 (by omega);have u1:=hu (n-1-d) (n-1-c) n1.1 (by omega) n2.2
 cases e:lt (X (n-1-d)) (X d) with
 | true=>rfl
 | false =>
  have:=hS.tr (hS.tr l1 e) u1;rw [this] at ht;cases ht
theorem SrchOk.cut{lt:α→α→Bool}{X:Nat→α}{lo hi n s a m b:Nat}(hS:SwO lt)(h:SrchOk lt X lo hi n s s)(hl:Srt lt X a m)(hu:Srt lt X m b)(hB:a<m∧m<b)
  (hd:n=(a+b) / 2+m) (hc:(m > (a+b) / 2∧lo=n-b∧hi=(a+b) / 2)∨(m≤(a+b) / 2∧lo=a∧hi=m)):CutOk lt X a s m (n-s) b∧s+(n-s-m)=(a+b) / 2:=by
 have o:=h.ord
 have hA:a≤s∧s≤m∧m≤n-s∧n-s≤b:=by
  rcases hc with ⟨c1,c2,c3⟩|⟨c1,c2,c3⟩<;>omega
 refine ⟨⟨hA,hl,hu,λp q p1 p2 q1 q2=>?_,λp q p1 p2 q1 q2=>?_,λ_ _ _ _ _ _=>trivial⟩,by omega⟩
 ·by_cases e:s<hi
  ·have t:=h.abv s (qn _) e
   have a1:lt (X p) (X s)=false:=hl s p (by omega) p1 p2;have a2:lt (X (n-1-s)) (X q)=false:=hu q (n-1-s) q1 (by omega) (by omega)
   cases e2:lt (X q) (X p) with
   | true=>rfl
   | false =>
    have:=hS.tr (hS.tr a1 e2) a2;rw [this] at t;cases t
  ·exfalso
   rcases hc with ⟨c1,c2,c3⟩|⟨c1,c2,c3⟩<;>omega
 ·by_cases e:lo<s
  ·have t:=h.bel (s-1) (by omega) (by omega)
   have a1:lt (X (s-1)) (X p)=false:=hl p (s-1) p1 (by omega) (by omega);have a2:lt (X q) (X (n-1-(s-1)))=false:=hu (n-1-(s-1)) q (by omega) (by omega) q2;exact hS.tr (hS.tr a1 t) a2
  ·exfalso
   rcases hc with ⟨c1,c2,c3⟩|⟨c1,c2,c3⟩<;>omega
def swr(X:Nat→α)(a b n:Nat):Nat→α:=λk=>if a≤k∧k<a+n then X (k-a+b) else if b≤k∧k<b+n then X (k-b+a) else X k
theorem Qn(X:Nat→α)(a b:Nat):swr X a b 0=X:=by
 funext k;unfold swr;rw [if_neg (by omega),if_neg (by omega)]
theorem Qm(X:Nat→α){a b n:Nat}(h:a+n<b):swp (swr X a b n) (a+n) (b+n)=swr X a b (n+1):=by
 funext k;unfold swp swr
 by_cases e1:k=a+n
 ·rw [if_pos e1,if_neg (by omega),if_neg (by omega),if_pos (by omega)];congr 1;omega
 ·rw [if_neg e1]
  by_cases e2:k=b+n
  ·rw [if_pos e2,if_neg (by omega),if_neg (by omega),if_neg (by omega),if_pos (by omega)];congr 1;omega
  ·rw [if_neg e2]
   by_cases e3:a≤k∧k<a+n
   ·rw [if_pos e3,if_pos (by omega)]
   ·rw [if_neg e3]
    by_cases e4:b≤k∧k<b+n
    ·rw [if_pos e4,if_neg (by omega),if_pos (by omega)]
    ·rw [if_neg e4,if_neg (by omega),if_neg (by omega)]
theorem TN(X:Nat→α){m i j:Nat}(h:j<i)(hm:i≤m):rot (swr X (m-i) m j) (m-(i-j)) m (m+j)=rot X (m-i) m (m+j):=by
 funext k;unfold rot swr
 by_cases e1:m-i≤k∧k<m-i+j
 ·rw [if_neg (by omega),if_neg (by omega),if_pos (by omega),if_pos (by omega)];congr 1;omega
 ·by_cases e2:m-(i-j)≤k∧k<m
  ·by_cases e3:k<m-(i-j)+(m+j-m)
   ·rw [if_pos (by omega),if_neg (by omega),if_pos (by omega),if_neg (by omega),if_pos (by omega)];congr 1;omega
   ·rw [if_neg (by omega),if_pos (by omega),if_neg (by omega),if_neg (by omega),if_neg (by omega),if_pos (by omega)]
  ·by_cases e3:m≤k∧k<m+j
   ·by_cases e4:k<m-(i-j)+(m+j-m)
    ·rw [if_pos (by omega),if_neg (by omega),if_pos (by omega),if_neg (by omega),if_pos (by omega)];congr 1;omega
    ·rw [if_neg (by omega),if_pos (by omega),if_neg (by omega),if_neg (by omega),if_neg (by omega),if_pos (by omega)]
   ·rw [if_neg (by omega),if_neg (by omega),if_neg (by omega),if_neg (by omega),if_neg (by omega),if_neg (by omega)]
theorem TO(X:Nat→α){m i j:Nat}(h:i<j)(hm:i≤m):rot (swr X (m-i) (m+j-i) i) (m-i) m (m+(j-i))=rot X (m-i) m (m+j):=by
 funext k;unfold rot swr
 by_cases e1:m-i≤k∧k<m-i+(j-i)
 ·by_cases e3:k+i<m+(j-i)
  ·rw [if_pos (by omega),if_neg (by omega),if_neg (by omega),if_pos (by omega)]
  ·exfalso;omega
 ·by_cases e2:m-i+(j-i)≤k∧k<m+(j-i)
  ·rw [if_neg (by omega),if_pos (by omega),if_pos (by omega),if_pos (by omega)];congr 1;omega
  ·by_cases e3:m+(j-i)≤k∧k<m+j
   ·rw [if_neg (by omega),if_neg (by omega),if_neg (by omega),if_pos (by omega),if_neg (by omega),if_pos (by omega)];congr 1;omega
   ·rw [if_neg (by omega),if_neg (by omega),if_neg (by omega),if_neg (by omega),if_neg (by omega),if_neg (by omega)]
theorem TL(X:Nat→α){m i:Nat}(hm:i≤m):swr X (m-i) m i=rot X (m-i) m (m+i):=by
 funext k;unfold rot swr
 by_cases e1:m-i≤k∧k<m
 ·rw [if_pos (by omega),if_pos (by omega)];congr 1;omega
 ·by_cases e2:m≤k∧k<m+i
  ·rw [if_neg (by omega),if_pos (by omega),if_neg (by omega),if_pos (by omega)];congr 1;omega
  ·rw [if_neg (by omega),if_neg (by omega),if_neg (by omega),if_neg (by omega)]
theorem Oa(X:Nat→α){a k:Nat}(h:a≤k):swp (rot X a (a+1) (k+1)) k (k+1)=rot X a (a+1) (k+2):=by
 funext i;unfold swp rot
 by_cases e1:i=k
 ·rw [if_pos e1,if_neg (by omega),if_neg (by omega),if_pos (by omega)];congr 1;omega
 ·rw [if_neg e1]
  by_cases e2:i=k+1
  ·rw [if_pos e2,if_neg (by omega),if_pos (by omega),if_neg (by omega),if_pos (by omega)];congr 1;omega
  ·rw [if_neg e2]
   by_cases e3:a≤i∧i<k
   ·rw [if_pos (by omega),if_pos (by omega)]
   ·rw [if_neg (by omega),if_neg (by omega),if_neg (by omega),if_neg (by omega)]
theorem Qd(X:Nat→α){m k:Nat}(h:k+1≤m):swp (rot X (k+1) m (m+1)) (k+1) k=rot X k m (m+1):=by
 funext i;unfold swp rot
 by_cases e1:i=k+1
 ·rw [if_pos e1,if_neg (by omega),if_neg (by omega),if_neg (by omega),if_pos (by omega)];congr 1;omega
 ·rw [if_neg e1]
  by_cases e2:i=k
  ·rw [if_pos e2,if_pos (by omega),if_pos (by omega)];congr 1;omega
  ·rw [if_neg e2]
   by_cases e3:k+1<i∧i<m+1
   ·rw [if_neg (by omega),if_pos (by omega),if_neg (by omega),if_pos (by omega)]
   ·rw [if_neg (by omega),if_neg (by omega),if_neg (by omega),if_neg (by omega)]
structure OneUp(lt:α→α→Bool)(X:Nat→α)(a b i j:Nat):Prop where
 ord:a+1≤i∧i≤j∧j≤b
 bel:∀q,a+1≤q→q<i→lt (X q) (X a)=true
 abv:∀q,j≤q→q<b→lt (X q) (X a)=false
theorem OneUp.up{lt:α→α→Bool}{X:Nat→α}{a b i j h:Nat}(hS:SwO lt)(k:OneUp lt X a b i j)(hu:Srt lt X (a+1) b)(h1:i≤h)(h2:h<j)(t:lt (X h) (X a)=true):OneUp lt X a b (h+1) j:=by
 have o:=k.ord;refine ⟨by omega,λq q1 q2=>?_,k.abv⟩;have u:=hu q h q1 (by omega) (by omega)
 cases e:lt (X q) (X a) with
 | true=>rfl
 | false=>have:=hS.tr e u;rw [this] at t;cases t
theorem OneUp.dn{lt:α→α→Bool}{X:Nat→α}{a b i j h:Nat}(hS:SwO lt)(k:OneUp lt X a b i j)(hu:Srt lt X (a+1) b)(h1:i≤h)(h2:h<j)(t:lt (X h) (X a)=false):OneUp lt X a b i h:=by
 have o:=k.ord;refine ⟨by omega,k.bel,λq q1 q2=>?_⟩;exact hS.tr t (hu h q (by omega) q1 q2)
theorem OneUp.cut{lt:α→α→Bool}{X:Nat→α}{a b i:Nat}(hS:SwO lt)(k:OneUp lt X a b i i)(hu:Srt lt X (a+1) b):CutOk lt X a a (a+1) i b:=by
 have o:=k.ord;refine ⟨by omega,Srt.one hS X a,hu,λp q p1 p2 q1 q2=>?_,λp q p1 p2=>by omega,λ_ _ _ _ _ _=>trivial⟩;obtain rfl:p=a:=by omega
 exact k.bel q q1 q2
theorem OneUp.fin{lt:α→α→Bool}{X:Nat→α}{a b i:Nat}(hS:SwO lt)(k:OneUp lt X a b i i)(hu:Srt lt X (a+1) b):Stb lt X (rot X a (a+1) i) a b∧Srt lt (rot X a (a+1) i) a b:=by
 have c:=k.cut hS hu;have o:=k.ord;refine ⟨c.stb hS,?_⟩;have s2:=c.s2;refine Srt.join (m:=a+(i-(a+1))) s2 (Srt.join c.s3 c.s4 λp q p1 p2 q1 q2=>?_) (c.half hS);rw [Fx X p1 p2,JT X (by omega) q1];have e:p-(i-(a+1))=a:=by omega
 rw [e];exact k.abv q q1 q2
structure OneDn(lt:α→α→Bool)(X:Nat→α)(a m i j:Nat):Prop where
 ord:a≤i∧i≤j∧j≤m
 bel:∀q,a≤q→q<i→lt (X m) (X q)=false
 abv:∀q,j≤q→q<m→lt (X m) (X q)=true
theorem OneDn.up{lt:α→α→Bool}{X:Nat→α}{a m i j h:Nat}(hS:SwO lt)(k:OneDn lt X a m i j)(hl:Srt lt X a m)(h1:i≤h)(h2:h<j)(t:lt (X m) (X h)=false):OneDn lt X a m (h+1) j:=by
 have o:=k.ord;refine ⟨by omega,λq q1 q2=>?_,k.abv⟩;exact hS.tr (hl q h q1 (by omega) (by omega)) t
theorem OneDn.dn{lt:α→α→Bool}{X:Nat→α}{a m i j h:Nat}(hS:SwO lt)(k:OneDn lt X a m i j)(hl:Srt lt X a m)(h1:i≤h)(h2:h<j)(t:lt (X m) (X h)=true):OneDn lt X a m i h:=by
 have o:=k.ord;refine ⟨by omega,k.bel,λq q1 q2=>?_⟩;have u:=hl h q (by omega) q1 q2
 cases e:lt (X m) (X q) with
 | true=>rfl
 | false=>have:=hS.tr u e;rw [this] at t;cases t
theorem OneDn.fin{lt:α→α→Bool}{X:Nat→α}{a m i:Nat}(hS:SwO lt)(k:OneDn lt X a m i i)(hl:Srt lt X a m):Stb lt X (rot X i m (m+1)) a (m+1)∧Srt lt (rot X i m (m+1)) a (m+1):=by
 have o:=k.ord
 have c:CutOk lt X a i m (m+1) (m+1):=by
  refine ⟨by omega,hl,Srt.one hS X m,λp q p1 p2 q1 q2=>?_,λp q _ _ q1 q2=>by omega,λ_ _ _ _ _ _=>trivial⟩;obtain rfl:q=m:=by omega
  exact k.abv p p1 p2
 refine ⟨c.stb hS,?_⟩;refine Srt.join (m:=i+(m+1-m)) (Srt.join c.s1 c.s2 λp q p1 p2 q1 q2=>?_) c.s3 λp q p1 p2 q1 q2=>c.half hS p q p1 p2 q1 q2
 rw [Mf X p2,GG X q1 q2];have e:q+(m-i)=m:=by omega
 rw [e];exact k.bel p p1 p2
end
end
end Go.Proofs.YtbkemlgfdklpfaaGreatDoor
