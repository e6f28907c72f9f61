/- The walk of the statement: part 4. -/
import Derived.Test.YtbkemlgfdklpfaaGreatDoorYLE4p3
import Derived.Test.YtbkemlgfdklpfaaGreatDoorZ31
import Derived.Test.YtbkemlgfdklpfaaGreatDoorZ40
import Derived.Test.YtbkemlgfdklpfaaGreatDoorZ15
import Derived.Test.YtbkemlgfdklpfaaGreatDoorYLE4p1
import Derived.Test.YtbkemlgfdklpfaaGreatDoorZ34
import Derived.Test.YtbkemlgfdklpfaaGreatDoorZ41
import Derived.Maps.AppendAt
import Derived.Deep.MidRow
import Derived.Test.YtbkemlgfdklpfaaGreatDoorZ4
set_option linter.unusedVariables false
set_option linter.unusedSimpArgs false
set_option maxRecDepth 100000
set_option maxHeartbeats 16000000
namespace Go.Proofs.YtbkemlgfdklpfaaGreatDoor
open Go.Value (int)
open Go.IntKind (i64)
section
open Go Go.RowKit Go.Shelf Go.Deep
abbrev Wy:=Dan×Int×Int
theorem Wg{w:World}{b:Nat}:∀{o:Nat} {ds:List Dan} {ks:List Int},Bq w b o ds→NsAt w (An b o ds) ks→∃xs:List Wy,xs.map (·.1)=ds∧(xs.flatMap λx=>[x.2.1,x.2.2])=ks∧AtRow Tv 6 w b o xs
 | _,[],[],_,_=>⟨[],rfl,rfl,λi x hx=>by cases hx⟩
 | o,d::r,n::k::ks,⟨⟨h0,h2,h4,h5⟩,hr⟩,⟨h1,h3,hk⟩=>by
  obtain ⟨xs,e1,e2,hA⟩:=Wg hr hk;refine ⟨(d,n,k)::xs,by simp [e1],by simp [e2],λi x hx j v hv=>?_⟩
  cases i with
  | zero =>
   cases hx;rw [Nat.zero_mul,Nat.add_zero]
   match j,hv with
   | 0,hv=>cases hv;exact h0
   | 1,hv=>cases hv;exact h1
   | 2,hv=>cases hv;exact h2
   | 3,hv=>cases hv;exact h3
   | 4,hv=>cases hv;exact h4
   | 5,hv=>cases hv;exact h5
   | j+6,hv=>simp [Tv] at hv
  | succ i =>
   have:=hA i x (by simpa using hx) j v hv;rw [show o+(i+1)*6+j=o+6+i*6+j by omega];exact this
theorem WK:∃i,Tryz.prog.info? 64=some i∧i.zero=some (.agg #[.string ⟨#[]⟩,int i64 0,.string ⟨#[]⟩,int i64 0,int i64 0,.bool false])∧i.size=6∧i.bytes=64:=by
 have h:=TH
 cases hi:Tryz.prog.info? 64 with
 | none=>rw [hi] at h;cases h
 | some i =>
  rw [hi] at h;simp only [Option.map_some,Option.some.injEq,Prod.mk.injEq] at h;exact ⟨i,rfl,h.1,h.2.1,h.2.2⟩
theorem Wq{s:Ls}{ns:List Int}(h:Bc s ns=0):s.dances.length≤256:=by
 obtain ⟨hl,_⟩:=E9 (Le h).1;unfold Sc.lims Sc.fit at hl;simp only [Bool.and_eq_true,decide_eq_true_eq] at hl;exact hl.1.2.2.2.2.2
theorem VY{R P:List Nm}:∀{xs ys:List (Nat×Nm)} {k1 k2:List Int},xs.length=k1.length→Aw R P (xs++ys) (k1++k2)=some (k1++k2)→Aw R P xs k1=some k1∧Aw R P ys k2=some k2
 | [],ys,[],k2,_,h=>⟨rfl,h⟩
 | x::xs,ys,n::k1,k2,hl,h=>by
  simp only [List.cons_append,Aw] at h
  cases hr:Bu R P x n with
  | none=>rw [hr] at h;cases h
  | some k =>
   cases hA:Aw R P (xs++ys) (k1++k2) with
   | none=>rw [hr,hA] at h;cases h
   | some ks =>
    rw [hr,hA] at h;simp only [Option.some.injEq,List.cons.injEq] at h;obtain ⟨rfl,rfl⟩:=h;obtain ⟨h1,h2⟩:=VY (by simpa using hl) hA;refine ⟨?_,h2⟩;simp only [Aw];rw [hr,h1]
theorem WA{R P:List Nm}:∀{xs ys:List (Nat×Nm)} {k1 k2:List Int},Aw R P xs k1=some k1→Aw R P ys k2=some k2→Aw R P (xs++ys) (k1++k2)=some (k1++k2)
 | [],ys,[],k2,_,h=>h
 | [],_,_::_,_,h,_=>by cases h
 | _::_,_,[],_,h,_=>by cases h
 | x::xs,ys,n::k1,k2,h,h2=>by
  simp only [List.cons_append,Aw] at h ⊢
  cases hr:Bu R P x n with
  | none=>rw [hr] at h;cases h
  | some k =>
   cases hA:Aw R P xs k1 with
   | none=>rw [hr,hA] at h;cases h
   | some ks =>
    rw [hr,hA] at h;simp only [Option.some.injEq,List.cons.injEq] at h;obtain ⟨rfl,rfl⟩:=h;rw [WA hA h2]
theorem Wr{R P:List Nm}{x:Wy}:∀{xs:List Wy} {i:Nat},Aw R P ((xs.map (·.1)).flatMap λd=>[(1,d.rn),(2,d.pn)]) (xs.flatMap λx=>[x.2.1,x.2.2])=some (xs.flatMap λx=>[x.2.1,x.2.2])→xs[i]?=some x→Aw R P [(1,x.1.rn),(2,x.1.pn)] [x.2.1,x.2.2]=some [x.2.1,x.2.2]
 | [],_,_,h=>by cases h
 | y::r,0,h,hx=>by
  cases hx;rw [List.map_cons,List.flatMap_cons,List.flatMap_cons] at h;exact (VY (by rfl) h).1
 | y::r,i+1,h,hx=>by
  rw [List.map_cons,List.flatMap_cons,List.flatMap_cons] at h;exact Wr (VY (by rfl) h).2 (by simpa using hx)
theorem Wm{s:Ls}{k1 k2:List Int}{xs:List Wy}{x:Wy}{i:Nat}{w:World}(h:Bc s (k1++k2)=0)(hN:NsAt w (Ap s.phrases) k1)(hx:xs.map (·.1)=s.dances)(hk:(xs.flatMap λx=>[x.2.1,x.2.2])=k2)(hi:xs[i]?=some x)(a:Option Addr)(c:Nat):Bc (s.only a c x.1) (k1++[x.2.1,x.2.2])=0:=by
 obtain ⟨hc,hL⟩:=Le h;have hm:x.1∈s.dances:=by rw [← hx];exact List.mem_map.2 ⟨x,List.mem_of_getElem? hi,rfl⟩
 obtain ⟨h1,h2,h3,h4,h5⟩:=E9 hc;have hl:(Ap s.phrases).length=k1.length:=hN.len.symm
 have e0:s.strip.refs=(Ap s.phrases).map RefL.key++s.dances.flatMap λd=>[(1,d.rn),(2,d.pn)]:=by
  rw [Ik];rfl
 rw [e0,← hx,← hk] at h5;obtain ⟨p1,p2⟩:=VY (by rw [List.length_map];exact hl) h5;have p3:=WA p1 (Wr p2 hi)
 have e1:(s.only a c x.1).strip.refs=(Ap s.phrases).map RefL.key++[(1,x.1.rn),(2,x.1.pn)]:=by
  rw [Ik];rfl
 have q1:(s.only a c x.1).strip.lims=true:=by
  have:1≤s.dances.length:=List.length_pos_of_mem hm;unfold Sc.lims Sc.fit at h1 ⊢;simp only [Ls.only,Ls.strip,Bool.and_eq_true,decide_eq_true_eq] at h1 ⊢;obtain ⟨⟨a1,a2,a3,a4,a5,a6⟩,a7⟩:=h1;exact ⟨⟨a1,a2,a3,a4,a5,by simp⟩,a7⟩
 have qi:(s.only a c x.1).strip.idx (k1++[x.2.1,x.2.2])=some (k1++[x.2.1,x.2.2]):=by
  unfold Sc.idx;rw [if_pos (show (s.only a c x.1).strip.kinds=true from h4),e1];exact p3
 have qc:Dd (s.only a c x.1).strip (k1++[x.2.1,x.2.2])=0:=by
  have hr:Db (s.only a c x.1).strip (k1++[x.2.1,x.2.2])=0:=by
   unfold Db;rw [q1,show (s.only a c x.1).strip.named=true from h2,show (s.only a c x.1).strip.apart=true from h3,qi]
   rfl
  unfold Dd;rw [if_pos hr,if_pos qi]
 have qL:Iy (s.only a c x.1) (AI (s.only a c x.1).strip)=true:=by
  unfold Iy at hL ⊢;simp only [Bool.and_eq_true,decide_eq_true_eq] at hL ⊢;obtain ⟨a1,a2,a3,a4,a5,a6,a7⟩:=hL
  exact ⟨a1,a2,a3,a4,a5,a6,List.all_eq_true.2 λd hd=>by
   rw [List.mem_singleton.1 hd];exact List.all_eq_true.1 a7 x.1 hm⟩
 unfold Bc;rw [if_pos qc,if_pos qL]
def VT(s:Ls)(d:Dan):List Sgn:=Bh (I8 s.strip) (I8 s.strip d.rn) d.bar ((NB s d).bars (JB s.ltsL (AI s.strip)))
theorem Ws(s:Ls):Fk s=s.dances.flatMap (VT s):=by
 unfold Fk;rw [List.flatMap_map]
 rfl
theorem Wd{s:Ls}{d:Dan}(h:d∈s.dances)(a:Option Addr)(c:Nat):Fk (s.only a c d)=VT s d∧(Fk (s.only a c d)).length≤(Fk s).length:=by
 refine ⟨Wc s a c d,?_⟩;rw [Wc,Ws]
 have:∀{l:List Dan},d∈l→(VT s d).length≤(l.flatMap (VT s)).length:=by
  intro l
  induction l with
  | nil=>intro h;cases h
  | cons y r ih =>
   intro h;rw [List.flatMap_cons,List.length_append];rcases List.mem_cons.1 h with rfl|h
   ·omega
   ·have:=ih h;omega
 exact this h
def Sgn.noid(x:Sgn):Sgn:={ x with id:=0 }
theorem VX:∀(k:Int) (l:List Sgn),Qd k (l.map Sgn.noid)=Qd k l
 | _,[]=>rfl
 | k,x::r=>by rw [List.map_cons,Qd,Qd,VX (k+1) r];rfl
theorem We:∀(k:Int) (l:List Sgn),(Qd k l).map Sgn.noid=l.map Sgn.noid
 | _,[]=>rfl
 | k,x::r=>by rw [Qd,List.map_cons,List.map_cons,We (k+1) r];rfl
def VU(b:Nat)(l:List Sgn):List Sgn:=l.filter λx=>decide (x.bar=(b:Int))
theorem Wa(b:Nat)(l:List Sgn):(VU b l).map Sgn.noid=VU b (l.map Sgn.noid):=by
 unfold VU;rw [List.filter_map]
 rfl
theorem Wk(s:Ls):Qd 0 ((List.range s.bars.toNat).flatMap λb=>s.dances.flatMap λd=>VU b (Qd 0 (VT s d)))=DP s:=by
 unfold DP IT;rw [← VX,← VX 0 (List.flatMap _ _)]
 congr 1
 rw [List.map_flatMap,List.map_flatMap];refine Wh λb=>?_
 change _=(VU b (Fk s)).map Sgn.noid;rw [Wa,Ws,List.map_flatMap,List.map_flatMap];unfold VU;rw [List.filter_flatMap];refine Wh λd=>?_
 have e:=Wa b (Qd 0 (VT s d));rw [We] at e;exact e
theorem Wf:∀(k:Int) (l:List Sgn) (x:Sgn),Qd k (l++[x])=Qd k l++[{ x with id:=k+l.length }]
 | k,[],x=>by simp [Qd]
 | k,y::r,x=>by
  rw [List.cons_append,Qd,Qd,Wf (k+1) r x,List.cons_append]
  congr 4
  simp only [List.length_cons];omega
theorem Wl{b i:Nat}{l:List Sgn}{x:Sgn}(h:l[i]?=some x):VU b (l.take (i+1))=if x.bar=(b:Int) then VU b (l.take i)++[x] else VU b (l.take i):=by
 unfold VU;rw [List.take_add_one,h,List.filter_append]
 split
 ·rename_i e;simp [e]
 ·rename_i e;simp [e]
theorem WI(s:Ls)(ns:List Int)(w:World)(hA:s.At w)(hN:NsAt w s.refs ns)(he:Env w)(hs:Bc s ns=0)(hr:s.roles≠[])(hl:(Fk s).length≤4096):Calls Tryz.prog 11 #[s.val] w λe w'=>Below w.heap.size w w' ∧
  ∃(ra a0 a1 a2 a3:Option Addr) (rc c0 c1 c2 c3:Nat),e=.returned (.tuple #[.agg (wkC s ra a0 a1 a2 a3 rc c0 c1 c2 c3 (DP s).length),int i64 0])∧IsRow Ay 14 w' (.slice a3 (DP s).length c3) (DP s)∧∀b o,a3=some ⟨b,o,none⟩→DP s≠[]→w.heap.size≤b:=by
 refine (M7 s ns w hA hN he hs hr).mono ?_;rintro e w' ⟨hb,⟨h,_⟩|⟨_,ra,a0,a1,a2,a3,rc,c0,c1,c2,c3,rfl,_,_,_,_,h5⟩⟩
 ·omega
 ·exact ⟨hb,ra,a0,a1,a2,a3,rc,c0,c1,c2,c3,rfl,h5⟩
theorem WC:(Tryz.prog.info? 37).map (λi=>(i.zero,i.size,i.bytes))=some (some (.slice none 0 0),1,24):=by kernel_rfl
theorem WJ:∃i,Tryz.prog.info? 37=some i∧i.zero=some (.slice none 0 0)∧i.size=1∧i.bytes=24:=by
 have h:=WC
 cases hi:Tryz.prog.info? 37 with
 | none=>rw [hi] at h;cases h
 | some i =>
  rw [hi] at h;simp only [Option.map_some,Option.some.injEq,Prod.mk.injEq] at h;exact ⟨i,rfl,h.1,h.2.1,h.2.2⟩
theorem WE(b o n c i:Nat)(hi:i<n)(hn:n≤c)(W:World):(Instr.slice 28 (.slice (some ⟨b,o,none⟩) n c) (some (int i64 (i:Int))) (some (int i64 ((i:Int)+1))) none).run Tryz.prog W=.ok (.slice (some ⟨b,o+i*6,none⟩) 1 (c-i)) W:=by
 have hz:(sizeOf (Tryz.prog.elem 28)).run Tryz.prog W=.ok 6 W:=by
  obtain ⟨i0,h0,_,h2,_⟩:=WK;have e:Tryz.prog.elem 28=64:=by kernel_rfl
  rw [e];simp [sizeOf,typeInfo,h0,h2]
 rw [run_slice_lh W 28 (some ⟨b,o,none⟩) n c (by kernel_rfl) .i64 .i64 (i:Int) ((i:Int)+1) (by omega) (by omega) (by omega),hz];have e1:((i:Int)).toNat=i:=by omega
 have e2:((i:Int)+1).toNat=i+1:=by omega
 simp only [Result.andThen,sliced,e1,e2];rw [if_neg (by omega),show i+1-i=1 by omega,Option.map_some,AN]
def PartsAt(s:Ls)(ds:List Dan)(hs:List Value)(g:Option Nat)(W:World):Prop :=
 hs.length=ds.length∧∀(k:Nat) (d:Dan),ds[k]?=some d→∃(a:Option Addr) (c:Nat),hs[k]?=some (Value.slice a (Qd 0 (VT s d)).length c)∧IsRow Ay 14 W (.slice a (Qd 0 (VT s d)).length c) (Qd 0 (VT s d))∧∀b o,a=some ⟨b,o,none⟩→Qd 0 (VT s d)≠[]→some b≠g
theorem PartsAt.keep{s:Ls}{ds:List Dan}{hs:List Value}{g:Option Nat}{W V:World}(h:PartsAt s ds hs g W)(hb:Below W.heap.size W V):PartsAt s ds hs g V :=
 ⟨h.1,λk d hk=>by obtain ⟨a,c,h1,h2,h3⟩:=h.2 k d hk;exact ⟨a,c,h1,h2.below hb (qn _),h3⟩⟩
theorem Ww{W V:World}{a:Option Addr}{n c:Nat}{l:List Sgn}{g:Option Nat}(h:IsRow Ay 14 W (.slice a n c) l)(hg:W.grownBy V g)(hB:∀b o,a=some ⟨b,o,none⟩→l≠[]→some b≠g):IsRow Ay 14 V (.slice a n c) l:=by
 obtain ⟨ao,c',e,hl,h⟩:=h;refine ⟨ao,c',e,hl,?_⟩;injection e with e1 _ _;rcases h with h|⟨b,o,e2,hA,hb⟩
 ·exact Or.inl h
 ·cases l with
  | nil=>exact Or.inl rfl
  | cons x r =>
   have hk:=hg.block b hb (hB b o (e1.trans e2) (by simp));exact Or.inr ⟨b,o,e2,λi y hi j u hu=>by rw [World.cell?_of_block hk];exact hA i y hi j u hu,Nat.lt_of_lt_of_le hb hg.size⟩
theorem PartsAt.snoc{s:Ls}{ds:List Dan}{hs:List Value}{g g':Option Nat}{W V:World}{d:Dan}{a:Option Addr}{c:Nat}(h:PartsAt s ds hs g W)(hr:IsRow Ay 14 W (.slice a (Qd 0 (VT s d)).length c) (Qd 0 (VT s d)))(hn:∀b o,a=some ⟨b,o,none⟩→Qd 0 (VT s d)≠[]→some b≠g)(hg:W.grownBy V g)(hC:g'=g∨g'=some W.heap.size):PartsAt s (ds++[d]) (hs++[.slice a (Qd 0 (VT s d)).length c]) g' V:=by
 have key:∀{d:Dan} {a:Option Addr} {c:Nat},IsRow Ay 14 W (.slice a (Qd 0 (VT s d)).length c) (Qd 0 (VT s d))→(∀b o,a=some ⟨b,o,none⟩→Qd 0 (VT s d)≠[]→some b≠g)→IsRow Ay 14 V (.slice a (Qd 0 (VT s d)).length c) (Qd 0 (VT s d))∧∀b o,a=some ⟨b,o,none⟩→Qd 0 (VT s d)≠[]→some b≠g':=by
  intro d a c hr hn;refine ⟨Ww hr hg hn,λb o ea hB=>?_⟩;rcases hC with e|e
  ·rw [e];exact hn b o ea hB
  ·obtain ⟨x,hx⟩:∃x,(Qd 0 (VT s d))[0]?=some x:=⟨_,qg (List.length_pos_iff.2 hB)⟩
   obtain ⟨b',o',e2,_,hA⟩:=hr.block hx;rw [ea] at e2;cases e2;rw [e];intro e3;cases e3;omega
 refine ⟨by simp [h.1],λk d' hk=>?_⟩;by_cases hA:k<ds.length
 ·rw [List.getElem?_append_left hA] at hk
  obtain ⟨a',c',h1,h2,h3⟩:=h.2 k d' hk;exact ⟨a',c',by rw [List.getElem?_append_left (by rw [h.1];exact hA)];exact h1,key h2 h3⟩
 ·have hD:=(ql.1 hk).1
  simp at hD;obtain rfl:k=ds.length:=by omega
  rw [List.getElem?_append_right (qn _),Nat.sub_self] at hk;cases hk;exact ⟨a,c,by rw [List.getElem?_append_right (by rw [h.1];exact qn _),h.1,Nat.sub_self];rfl,key hr hn⟩
def VW(s:Ls)(b:Nat):List Sgn:=s.dances.flatMap λd=>VU b (Qd 0 (VT s d))
theorem Wz(s:Ls)(b:Nat):(List.range (b+1)).flatMap (VW s)=(List.range b).flatMap (VW s)++VW s b:=by
 rw [List.range_succ,List.flatMap_append];simp
theorem Wv{s:Ls}{b j:Nat}{d:Dan}(h:s.dances[j]?=some d):(s.dances.take (j+1)).flatMap (λd=>VU b (Qd 0 (VT s d)))=(s.dances.take j).flatMap (λd=>VU b (Qd 0 (VT s d)))++VU b (Qd 0 (VT s d)):=by
 rw [List.take_add_one,h,List.flatMap_append];simp
structure AllW(W0:World)(L:List Sgn)(m:Nat)(ao:Option Addr)(k c:Nat)(W:World):Prop where
 base:Below W0.heap.size W0 W
 own:W.ownsRow W0.heap.size 54 14 (.slice ao k c) k ((Qd 0 L).flatMap Ay)
 len:L.length=k
 few:k≤m
theorem AllW.below{W0 W V:World}{L:List Sgn}{m k c:Nat}{ao:Option Addr}(h:AllW W0 L m ao k c W)(hb:Below W.heap.size W V):AllW W0 L m ao k c V :=
 ⟨h.base.trans (hb.mono h.base.size),Bg h.own hb,h.len,h.few⟩
theorem AllW.of{W0 W:World}{L L':List Sgn}{m m' k c:Nat}{ao:Option Addr}(h:AllW W0 L m ao k c W)(e:L'=L)(hm:m≤m'):AllW W0 L' m' ao k c W :=
 ⟨h.base,e▸h.own,e▸h.len,Nat.le_trans h.few hm⟩
theorem WM{W:World}{B e n pc j:Nat}{pa:Option Addr}{hs:List Value}{u:Value}(h:W.ownsRow B e 1 (.slice pa n pc) n hs)(hj:hs[j]?=some u):∃g,pa=some ⟨g,0,none⟩∧W.cell? ⟨g,j,none⟩=some u:=by
 rcases h.2 with ⟨e1,h0⟩|⟨g,cap,cur,e1,_⟩
 ·have hn:hs=[]:=List.length_eq_zero_iff.1 (by rw [h.1,h0])
  rw [hn] at hj;simp at hj
 ·injection e1 with e2 _ _
  subst e2;have:=h.cells (g:=g) rfl j u hj;rw [AN,Nat.zero_add] at this;exact ⟨g,rfl,this⟩
theorem AllW.put{W0 W W5 V:World}{L:List Sgn}{m k c:Nat}{ao:Option Addr}{y:Sgn}{v':Value}(h:AllW W0 L m ao k c W)(hb:Below W.heap.size W W5)(ho:V.ownsRow W0.heap.size 54 14 v' (k+1) ((Qd 0 L).flatMap Ay++Ay { y with id:=(k:Int) }))(hg:W5.grownBy V (Value.slice ao k c).ownBlock):∃ao' c',v'=.slice ao' (k+1) c'∧AllW W0 (L++[y]) (m+1) ao' (k+1) c' V:=by
 obtain ⟨ao',c',rfl⟩:=AT ho;refine ⟨ao',c',rfl,⟨?_,?_,by simp [h.len],by have:=h.few;omega⟩⟩
 ·have h5:=h.below hb
  exact h5.base.grown hg h5.base.size λq hq=>(h5.own.lt q hq).1
 ·rw [Wf,h.len,Int.zero_add,List.flatMap_append]
  simpa using ho
theorem Wu(s:Ls)(ns:List Int)(w:World)(hA:s.At w)(hN:NsAt w s.refs ns)(hE:∀V,Below w.heap.size w V→Env V∧EnvK V)(hU:s.dances.length≤s.dc) :
  Calls Tryz.prog 6 #[s.val] w λe w'=>e=.returned (.bool true)∧Below w.heap.size w w':=by
 have HE:=qh hE;have HA:=qh hA;obtain ⟨k1,k2,HG,h5⟩:=Wi hN;obtain ⟨xs,Hl,Hm,hC⟩:=Wg hA.dances h5;have hn:=HG.append h5;have Hn:=qh HG;have HN:=qh (show NsAt w s.refs (k1++k2) from hn);have HH:=qh Hl;have uE:=qh Hm;have HJ:=qh hC;have hv:s.val=.agg s.cells:=rfl;rw [hv];obtain ⟨nD,HK⟩:∃n,s.dances.length=n:=⟨_,rfl⟩;have HD:=qh HK;have HL:nD≤maxLen:=by rw [← HK];exact hA.dlen
 unfold maxLen at HL;obtain ⟨V1,e1,g1,b1,z1⟩:=Ag w s.cells 30;obtain ⟨X,hX⟩:∃X,w.heap.size=X:=⟨_,rfl⟩;rw [hX] at g1;have HX:=qh g1;have HB:=qh b1;have HM:=qh hX;clear g1 b1 z1 hE hA hN hv HK HG h5 Hl Hm hC hn;have st0:True:=trivial;go_enter Tryz.func6,Tryz.ntmps6
 go_wp2_with (first
  | (have q:=st0;clear q;go_at_call 9;refine (Uy _ (λV hV=>HE.out V (Af HB.out hV))).mono ?_;rintro e V2 ⟨rfl,hb⟩;replace HB:=qh (Af HB.out hb);replace HX:=qh (Ah hb HX.out);clear hb;clear st0;have st1:True:=trivial)
  | (have q:=st1;clear q;refine wpList_load_row rfl 30 _ rfl X rfl 30 s.cells (0,0) _ HX.out Tryz.underlying30 rfl (by kernel_rfl) ?_;simp only [Act.put,qD,qE,qF];clear st1;have st2:True:=trivial))
 have hD:Value.agg s.cells=s.val:=rfl;rw [hD];go_at_call 10;refine (Ux s V2 (HA.out.below HB.out)).mono ?_;rintro e V3 ⟨r,rfl,hb⟩
 replace HB:=qh (Af HB.out hb)
 replace HX:=qh (Ah hb HX.out)
 clear hb hD e1
 cases r with
 | false =>
  go_wp2_with fail;go_ret;exact ⟨rfl,by have hq:=HB.out;first|exact hq|(rw [HM.out] at hq;exact hq)⟩
 | true =>
 have st3:True:=trivial
 go_wp2_with (first
  | (have q:=st3;clear q;refine wpList_load_row rfl 30 _ rfl X rfl 30 s.cells (0,0) _ HX.out Tryz.underlying30 rfl (by kernel_rfl) ?_;simp only [Act.put,qD,qE,qF];clear st3;have st4:True:=trivial))
 have hD:Value.agg s.cells=s.val:=rfl;rw [hD];clear hD;go_at_call 11;refine (WH s (k1++k2) V3 (HA.out.below HB.out) (HN.out.below HB.out) (HE.out V3 HB.out).1).mono ?_;rintro e V9 ⟨hb,hY⟩
 replace HB:=qh (Af HB.out hb);replace HX:=qh (Ah hb HX.out);clear hb
 rcases hY with ⟨k,hk,_,rfl⟩|⟨HO,hZ,Ho,ra,a0,a1,a2,a3,rc,c0,c1,c2,c3,rfl,hC⟩
 ·have h5:(k==0)=false:=by simpa using hk
  unfold wkZ;obtain ⟨A9,xA9,gA9,bA9,zA9⟩:=Ag V9 #[int i64 0,int i64 0,int i64 0,int i64 0,int i64 0,.slice none 0 0,int i64 0,.slice none 0 0,.slice none 0 0,.slice none 0 0,.slice none 0 0] 39;have G9:=qh gA9;have B9:=qh bA9;clear gA9 bA9 zA9;have st60:True:=trivial
  go_wp2_with (first
   | (have q:=st60;clear q;refine wpList_store_row rfl 39 _ _ rfl V9.heap.size #[int i64 0,int i64 0,int i64 0,int i64 0,int i64 0,.slice none 0 0,int i64 0,.slice none 0 0,.slice none 0 0,.slice none 0 0,.slice none 0 0] rfl rfl 39 _ G9.out (by kernel_rfl) rfl (by simp [Value.oneCell']) ?_;obtain ⟨W9,hW,gW,bW⟩:=AP (cs:=#[int i64 0,int i64 0,int i64 0,int i64 0,int i64 0,.slice none 0 0,int i64 0,.slice none 0 0,.slice none 0 0,.slice none 0 0,.slice none 0 0]) G9.out B9.out (qn _);rw [hW];have HQ:=qh (Af HB.out bW);clear G9 B9 hW gW bW;clear st60;have st61:True:=trivial))
  go_ret;exact ⟨rfl,by have hq:=HQ.out;first|exact hq|(rw [HM.out] at hq;exact hq)⟩
 obtain ⟨nS,h6⟩:∃n,(DP s).length=n:=⟨_,rfl⟩;rw [h6] at hC ⊢;have ha:nS≤maxLen:=by obtain ⟨g,o,_,h,_⟩:=hC.parts;rwa [h6] at h
 unfold maxLen at ha;have Hp:=qh h6;have Hq:=qh HO;have uF:=qh hZ;have Hr:=qh Ho;unfold wkC;obtain ⟨A10,xA10,gA10,bA10,zA10⟩:=Ag V9 #[int i64 s.wd,int i64 s.dp,int i64 (mkA s.t0 s.t1),int i64 (mkB s.t0 s.t1),int i64 (mkC s.t0 s.t1),.slice ra s.roles.length rc,int i64 s.bars,.slice a0 s.tempos.length c0,.slice a1 s.pauses.length c1,.slice a2 s.spans.length c2,.slice a3 nS c3] 39;obtain ⟨X8,uG⟩:∃X,V9.heap.size=X:=⟨_,rfl⟩;rw [uG] at gA10;have uH:=qh gA10
 replace HB:=qh (Af HB.out bA10);replace HX:=qh (Ah bA10 HX.out)
 have T1:=qh (hC.below bA10 (qn _));have hc:=T1;clear T1;have he:=Wq HO;rw [HD.out] at he;have Hs:xs.length=nD:=by rw [← HD.out,← HH.out,List.length_map]
 have uI:=qh Hs;have uJ:nD≤s.dc:=by rw [← HD.out];exact hU
 have HF:Hid (nD=0∨s.da=some ⟨blk s.da,off s.da,none⟩):=qh (HA.out.dform.imp_left λh=>by rw [← HD.out,h];rfl);have y11:A10.cell? ⟨X,11,none⟩=some (.slice s.da nD s.dc):=by rw [← HD.out];exact Aa HX.out 11 rfl
 have Y11:=qh y11;clear gA10 bA10 zA10 hC h6 HO hZ Ho Hs hU;go_wp2_with fail;clear y11;go_loopw [31,5] (λiv pv wr=>∃(i pc:Nat) (pa:Option Addr) (hs:List Value),iv=int i64 i∧pv=.slice pa i pc∧i≤nD∧Hid (wr.ownsRow A10.heap.size 37 1 (.slice pa i pc) i hs)∧Hid (PartsAt s (s.dances.take i) hs (Value.slice pa i pc).ownBlock wr)∧Hid (Below A10.heap.size A10 wr)) (λiv _ _=>nD+1-(intOf iv).toNat)
 case atStart=>exact ⟨0,0,none,[],rfl,rfl,Nat.zero_le _,qh (World.ownsRow_nil _ _ _ _),qh ⟨rfl,λk d h=>by simp at h⟩,qh (Below.refl _ _)⟩
 case round =>
  obtain ⟨i,pc,pa,hs,rfl,rfl,uh,hO,hP,hB⟩:=hrel;by_cases hi:i<nD
  ·have uK:((i:Nat):Int)<(nD:Int):=by omega
   obtain ⟨x,hx⟩:∃x,xs[i]?=some x:=⟨_,qg (by rw [uI.out];exact hi)⟩;have HR:s.dances[i]?=some x.1:=by rw [← HH.out,List.getElem?_map,hx];rfl
   have Ht:=List.mem_of_getElem? HR;have hu:wr.cell? ⟨X,11,none⟩=some (.slice s.da nD s.dc):=Ad hB.out Y11.out;rw [HF.out.resolve_left (by omega)] at hu;have HS:Below w.heap.size w wr:=HB.out.trans (hB.out.mono HB.out.size);have h7:wr.rangeAt (blk s.da) (off s.da+i*6) (WG x.1 x.2.1 x.2.2):=λu v hv=>Ad HS (HJ.out i x hx u v hv)
   have hR:=λa c=>Wm Hq.out Hn.out HH.out uE.out hx a c
   generalize blk s.da=fb at hu h7;generalize off s.da=fo at hu h7;obtain ⟨A11,xA11,gA11,bA11,zA11⟩:=Ag wr s.cells 30;unfold Ls.cells at xA11;obtain ⟨XT,Hu⟩:∃X,wr.heap.size=X:=⟨_,rfl⟩;rw [Hu] at gA11;have u11:A11.cell? ⟨X,11,none⟩=some (.slice (some ⟨fb,fo,none⟩) nD s.dc):=Ad bA11 hu;have ui:IntKind.i64.wrap ((i:Int)+1)=(i:Int)+1:=IntWalk.i64_in _ (by omega);have uj:=WE fb fo nD s.dc i hi uJ;obtain ⟨W12,eW12,gW12,oW12,bW12,cW12,fW12⟩:=CG (i:=11) (v:=.slice (some ⟨fb,fo+i*6,none⟩) 1 (s.dc-i)) (cs':=(s.only (some ⟨fb,fo+i*6,none⟩) (s.dc-i) x.1).cells) gA11 rfl rfl;have hf:Below wr.heap.size wr W12:=bA11.trans (bW12 _ (Nat.le_of_eq Hu));have Hv:=qh (Ah hB.out HX.out);have hg:=qh gW12;have hF:=qh hf;have HT:=qh HS;have Hw:=qh h7;have Hx:=qh hR;have uL:=qh HR;have uM:=qh Ht;have uk:=qh hx;clear gA11 bA11 zA11 gW12 oW12 bW12 hf HS h7 hR HR Ht hx hu;have st40:True:=trivial
   go_wp2_with (first
    | (have q:=st40;clear q;refine wpList_load_row rfl 30 _ rfl X rfl 30 s.cells (0,0) _ Hv.out Tryz.underlying30 rfl (by kernel_rfl) ?_;simp only [Act.put,qD,qE,qF];unfold Ls.cells;clear st40;have st41:True:=trivial)
    | (have q:=st41;clear q;refine wpList_load_row rfl 30 _ rfl XT rfl 30 (s.only (some ⟨fb,fo+i*6,none⟩) (s.dc-i) x.1).cells (0,0) _ hg.out Tryz.underlying30 rfl (by kernel_rfl) ?_;simp only [Act.put,qD,qE,qF];clear st41;have st42:True:=trivial))
   have hD:Value.agg (s.only (some ⟨fb,fo+i*6,none⟩) (s.dc-i) x.1).cells=(s.only (some ⟨fb,fo+i*6,none⟩) (s.dc-i) x.1).val:=rfl;rw [hD];clear hD;go_at_call 11;have hH:Below w.heap.size w W12:=HT.out.trans (hF.out.mono HT.out.size);obtain ⟨Hy,Hz⟩:=WD (c:=s.dc-i) HA.out Hn.out hH (λu v hv=>Ad hF.out (Hw.out u v hv):W12.rangeAt fb (fo+i*6) (WG x.1 x.2.1 x.2.2));have hR:=Hx.out (some ⟨fb,fo+i*6,none⟩) (s.dc-i);have HU:=Wd uM.out (some ⟨fb,fo+i*6,none⟩) (s.dc-i);have H0:DP (s.only (some ⟨fb,fo+i*6,none⟩) (s.dc-i) x.1)=Qd 0 (VT s x.1):=(Wp hR).trans (by rw [HU.1]);refine (WI (s.only (some ⟨fb,fo+i*6,none⟩) (s.dc-i) x.1) (k1++[x.2.1,x.2.2]) W12 Hy Hz (HE.out W12 hH).1 hR uF.out (Nat.le_trans HU.2 Hr.out)).mono ?_;rintro e V14 ⟨hb,rb,b0,b1,b2,b3,rd,d0,d1,d2,d3,rfl,hC,hI⟩;rw [H0] at hC hI ⊢;obtain ⟨nl,hJ⟩:∃n,(Qd 0 (VT s x.1)).length=n:=⟨_,rfl⟩;rw [hJ] at hC ⊢;have hh:=qh hJ;unfold wkC;simp only [Ls.only];obtain ⟨A15,xA15,gA15,bA15,zA15⟩:=Ag V14 #[int i64 s.wd,int i64 s.dp,int i64 (mkA s.t0 s.t1),int i64 (mkB s.t0 s.t1),int i64 (mkC s.t0 s.t1),.slice rb s.roles.length rd,int i64 s.bars,.slice b0 s.tempos.length d0,.slice b1 s.pauses.length d1,.slice b2 s.spans.length d2,.slice b3 nl d3] 39;obtain ⟨X10,HV⟩:∃X,V14.heap.size=X:=⟨_,rfl⟩;rw [HV] at gA15;have y10:A15.cell? ⟨X10,10,none⟩=some (.slice b3 nl d3):=Aa gA15 10 rfl;obtain ⟨A16,xA16,gA16,bA16,zA16⟩:=Ag A15 #[.slice b3 nl d3] 37;have hK:Below V14.heap.size V14 A16:=Af bA15 bA16;have h8:Below wr.heap.size wr A16:=Af (Af hF.out hb) hK;have H1:=Bg hO.out h8;have H2:=hP.out.keep h8;have H3:IsRow Ay 14 A16 (.slice b3 (Qd 0 (VT s x.1)).length d3) (Qd 0 (VT s x.1)):=by rw [hh.out];exact hC.below hK (qn _)
   have H4:∀b o,b3=some ⟨b,o,none⟩→Qd 0 (VT s x.1)≠[]→some b≠(Value.slice pa i pc).ownBlock:=λb o e1 e2 e3=>by
    have h1:=hI b o e1 e2;have h2:=(hO.out.lt b e3.symm).2;have h3:=hF.out.size;omega
   have H5:Below A10.heap.size A10 A16:=hB.out.trans (h8.mono hB.out.size)
   have H6:∀(j:Nat) (u:Value),[Value.slice b3 nl d3][j]?=some u→A16.cell? ((⟨A15.heap.size,0,none⟩:Addr).add j)=some u:=λj u hj=>by
    rw [AN,Nat.zero_add];exact Aa gA16 j (by simpa using hj)
   obtain ⟨i0,hm,ho,hp,hr⟩:=WJ;have HI:=qh (And.intro hm (And.intro ho (And.intro hp hr)));have H7:=qh H1;have uN:=qh H2;have uO:=qh H3;have uP:=qh H4;have HW:=qh H5;have uQ:=qh H6;clear hm ho hp hr H1 H2 H3 H4 H5 H6 hK h8 gA15 bA15 zA15 gA16 bA16 zA16 hC hI hJ hb Hy Hz hR HU H0 hH hO hP hB hg hF HT Hw Hx Hv
   go_wp2_with (at_builtin;generalize HY:@wpList=gg);subst HY
   try rw [xA16]
   refine wpList_append_own_at _ rfl _ _ 60 rfl A10.heap.size 37 i0 _ 1 24 Tryz.underlying60 HI.out.1 HI.out.2.1 HI.out.2.2.1 HI.out.2.2.2 rfl (by decide) _ i _ rfl H7.out ⟨A15.heap.size,0,none⟩ 1 1 [.slice b3 nl d3] rfl rfl uQ.out (λu hu=>by rw [List.mem_singleton.1 hu];rfl) (by unfold maxLen;omega) (by omega) HW.out.size ?_;intro v9 W17 hS hT _ ht;obtain ⟨pa9,pc9,rfl⟩:=AT hS;have HZ:=uN.out.snoc (d:=x.1) uO.out uP.out hT ht;rw [hh.out,show s.dances.take i++[x.1]=s.dances.take (i+1) by rw [List.take_add_one,uL.out];rfl] at HZ;have uR:=qh hS;have uS:=qh HZ;have HQ:=qh (HW.out.grown hT HW.out.size λq hq=>(H7.out.lt q hq).1);clear hS HZ hT ht;go_wp2_with fail;go_roundw
   case rel=>exact ⟨i+1,pc9,pa9,hs++[.slice b3 nl d3],by go_num,rfl,by omega,uR,uS,HQ⟩
   case measure=>first|omega|(simp [intOf];omega)
  ·obtain rfl:i=nD:=by omega
   obtain ⟨W2,rfl⟩:∃V,V=wr:=⟨_,rfl⟩;have uK:¬((i:Nat):Int)<(i:Int):=by omega
   obtain ⟨nB,Ha,uT⟩:∃n:Nat,s.bars=(n:Int)∧n≤4096:=by
    have hL:=(Le Hq.out).2;unfold Iy at hL;simp only [Bool.and_eq_true,decide_eq_true_eq] at hL;have:=Fh hL.2.2.2.1;exact ⟨s.bars.toNat,by omega,by omega⟩
   have y3:W2.cell? ⟨X,3,none⟩=some (int i64 (nB:Int)):=by rw [← Ha];exact Aa (Ah hB.out HX.out) 3 rfl
   have Hb:=hP.out;rw [List.take_of_length_le (Nat.le_of_eq HD.out)] at Hb;have HP:=qh Hb;have uU:=qh Ha;clear Hb hP Ha;go_wp2_with fail;clear y3;go_loopw [57,10] (λbv av w2=>∃(b k c:Nat) (ao:Option Addr),bv=int i64 b∧av=.slice ao k c∧b≤nB∧Hid (AllW W2 ((List.range b).flatMap (VW s)) (b*1048576) ao k c w2)) (λbv _ _=>nB+1-(intOf bv).toNat)
   case atStart=>exact ⟨0,0,0,none,rfl,rfl,Nat.zero_le _,qh ⟨Below.refl _ _,World.ownsRow_nil _ _ _ _,rfl,Nat.zero_le _⟩⟩
   case round =>
    obtain ⟨b,k,c,ao,rfl,rfl,ul,hA⟩:=hrel;by_cases hb:b<nB
    ·have uV:((b:Nat):Int)<(nB:Int):=by omega
     go_wp2_with fail;go_loopw [62,10] (λjv av w3=>∃(j k c:Nat) (ao:Option Addr),jv=int i64 j∧av=.slice ao k c∧j≤i∧Hid (AllW W2 ((List.range b).flatMap (VW s)++(s.dances.take j).flatMap λd=>VU b (Qd 0 (VT s d))) (b*1048576+j*4096) ao k c w3)) (λjv _ _=>i+1-(intOf jv).toNat)
     case atStart=>exact ⟨0,k,c,ao,rfl,rfl,Nat.zero_le _,qh (hA.out.of (by simp) (by omega))⟩
     case round =>
      clear hA;obtain ⟨j,k,c,ao,rfl,rfl,um,hA⟩:=hrel;by_cases hj:j<i
      ·have uW:((j:Nat):Int)<(i:Int):=by omega
       obtain ⟨d,hd⟩:∃d,s.dances[j]?=some d:=⟨_,qg (by rw [HD.out];exact hj)⟩;obtain ⟨p1,q1,H8,hC,_⟩:=HP.out.2 j d hd;obtain ⟨g,uX,h9⟩:=WM hO.out H8;have Hc:=Nat.le_trans (Wd (List.mem_of_getElem? hd) none 0).2 Hr.out;rw [(Wd (List.mem_of_getElem? hd) none 0).1,← VV 0 (VT s d)] at Hc;have Hd:=Wv (b:=b) hd;obtain ⟨l,hl⟩:∃l,Qd 0 (VT s d)=l:=⟨_,rfl⟩;rw [hl] at hC h9 Hc Hd;obtain ⟨nl,hJ⟩:∃n,l.length=n:=⟨_,rfl⟩;rw [hJ] at hC h9 Hc;have cj:wr.cell? ⟨g,j,none⟩=some (.slice p1 nl q1):=Ad hA.out.base h9;have hh:=qh hJ;have hw:=qh hC;have uY:=qh Hd;subst uX;clear hd H8 hC h9 hl hJ Hd;obtain ⟨L0,He⟩:∃L,(List.range b).flatMap (VW s)++(s.dances.take j).flatMap (λd=>VU b (Qd 0 (VT s d)))=L:=⟨_,rfl⟩;rw [He] at hA;have uZ:=qh He;clear He;go_wp2_with fail;clear cj;go_loopw [68,10] (λqv av w4=>∃(q k c:Nat) (ao:Option Addr),qv=int i64 q∧av=.slice ao k c∧q≤nl∧Hid (AllW W2 (L0++VU b (l.take q)) (b*1048576+j*4096+q) ao k c w4)) (λqv _ _=>nl+1-(intOf qv).toNat)
       case atStart=>exact ⟨0,k,c,ao,rfl,rfl,Nat.zero_le _,qh (hA.out.of (by simp [VU]) (by omega))⟩
       case round =>
        clear hA;obtain ⟨q,k,c,ao,rfl,rfl,un,hA⟩:=hrel;by_cases hq:q<nl
        ·have ua:((q:Nat):Int)<(nl:Int):=by omega
         obtain ⟨y,hy⟩:∃y,l[q]?=some y:=⟨_,qg (by rw [hh.out];exact hq)⟩;obtain ⟨g1,o1,ub,Hf,_⟩:=hw.out.block hy;have hM:=Wl (b:=b) hy
         cases y with
         | mk s0 s1 s2 s3 s4 s5 s6 s7 s8 s9 s10 s11 s12 s13 =>
         have H9:Hid (wr.rangeAt g1 (o1+q*14) [int i64 s0,int i64 s1,int i64 s2,int i64 s3,int i64 s4,int i64 s5,int i64 s6,int i64 s7,int i64 s8,int i64 s9,int i64 s10,int i64 s11,int i64 s12,int i64 s13]):=qh (λu v hv=>Ad hA.out.base (Hf q _ hy u v hv));obtain ⟨A16,xA16,gA16,bA16,zA16⟩:=Ag wr #[int i64 s0,int i64 s1,int i64 s2,int i64 s3,int i64 s4,int i64 s5,int i64 s6,int i64 s7,int i64 s8,int i64 s9,int i64 s10,int i64 s11,int i64 s12,int i64 s13] 54;obtain ⟨XB,uA⟩:∃X,wr.heap.size=X:=⟨_,rfl⟩;rw [uA] at gA16;have c2:A16.cell? ⟨XB,2,none⟩=some (int i64 s2):=Aa gA16 2 rfl;have uc:k≤4294967296:=by have:=hA.out.few;omega
         subst ub;simp only at hM;by_cases h2:s2=(b:Int)
         ·rw [if_pos h2] at hM
          subst h2;obtain ⟨W17,eW17,gW17,oW17,bW17,cW17,fW17⟩:=CG (i:=0) (v:=int i64 (k:Int)) (cs':=#[int i64 (k:Int),int i64 s1,int i64 (b:Int),int i64 s3,int i64 s4,int i64 s5,int i64 s6,int i64 s7,int i64 s8,int i64 s9,int i64 s10,int i64 s11,int i64 s12,int i64 s13]) gA16 rfl rfl;have hz:Below wr.heap.size wr W17:=bA16.trans (bW17 _ (Nat.le_of_eq uA));obtain ⟨W18,eW18,bW18,zW18,h0⟩:=QH W17 #[int i64 (k:Int),int i64 s1,int i64 (b:Int),int i64 s3,int i64 s4,int i64 s5,int i64 s6,int i64 s7,int i64 s8,int i64 s9,int i64 s10,int i64 s11,int i64 s12,int i64 s13] (all_oneCell_toArray (Nd ⟨(k:Int),s1,(b:Int),s3,s4,s5,s6,s7,s8,s9,s10,s11,s12,s13⟩));have hG:=Af hz bW18;obtain ⟨i0,hm,ho,hp,hr⟩:=PJ;have HI:=qh (And.intro hm (And.intro ho (And.intro hp hr)));have Hg:=qh gW17;have Hh:=qh hG;have h4:=qh h0;have Hi:=qh eW18;have ud:=qh hM;have Hj:=qh (Bg hA.out.own hG);have ue:=qh (hA.out.below hG).base.size;clear hm ho hp hr gW17 hG h0 eW18 bW18 zW18 hz oW17 bW17 gA16 bA16 zA16 Hf hy hM;have st50:True:=trivial
          go_wp2_with (first
           | (have q:=st50;clear q;refine wpList_load_mid rfl 54 _ rfl g1 (o1+q*14) rfl [int i64 s0,int i64 s1,int i64 (b:Int),int i64 s3,int i64 s4,int i64 s5,int i64 s6,int i64 s7,int i64 s8,int i64 s9,int i64 s10,int i64 s11,int i64 s12,int i64 s13] _ H9.out Tryz.underlying54 rfl (by kernel_rfl) ?_;simp only [Act.put,qD,qE,qF];clear st50;have st51:True:=trivial)
           | (have q:=st51;clear q;refine wpList_load_row rfl 54 _ rfl XB rfl 54 #[int i64 (k:Int),int i64 s1,int i64 (b:Int),int i64 s3,int i64 s4,int i64 s5,int i64 s6,int i64 s7,int i64 s8,int i64 s9,int i64 s10,int i64 s11,int i64 s12,int i64 s13] (0,0) _ Hg.out Tryz.underlying54 rfl (by kernel_rfl) ?_;simp only [Act.put,qD,qE,qF];clear st51;have st52:True:=trivial)
           | (have q:=st52;clear q;at_builtin;generalize HY:@wpList=gg))
          subst HY
          try rw [Hi.out]
          refine wpList_append_own _ rfl _ _ 37 rfl W2.heap.size 54 i0 _ 14 112 Tryz.underlying37 HI.out.1 HI.out.2.1 HI.out.2.2.1 HI.out.2.2.2 rfl (by decide) _ k _ rfl Hj.out ⟨W17.heap.size,0,none⟩ 1 1 [int i64 (k:Int),int i64 s1,int i64 (b:Int),int i64 s3,int i64 s4,int i64 s5,int i64 s6,int i64 s7,int i64 s8,int i64 s9,int i64 s10,int i64 s11,int i64 s12,int i64 s13] rfl rfl (h4.out.1 _ rfl) h4.out.2 (by unfold maxLen;omega) (by omega) ue.out ?_;intro v9 W19 hS hT _;obtain ⟨ao9,c9,rfl,uB⟩:=hA.out.put (y:=⟨s0,s1,(b:Int),s3,s4,s5,s6,s7,s8,s9,s10,s11,s12,s13⟩) Hh.out hS hT;have hQ:=qh (uB.of (L':=L0++VU b (l.take (q+1))) (m':=b*1048576+j*4096+(q+1)) (by rw [ud.out,List.append_assoc]) (by omega));clear hS hT uB;go_wp2_with fail;go_roundw
          case rel=>exact ⟨q+1,k+1,c9,ao9,by go_num,rfl,by omega,hQ⟩
          case measure=>first|omega|(simp [intOf];omega)
         ·rw [if_neg h2] at hM
          have uo:(s2==(b:Int))=false:=by simpa using h2
          have hQ:=qh ((hA.out.below bA16).of (L':=L0++VU b (l.take (q+1))) (m':=b*1048576+j*4096+(q+1)) (by rw [hM]) (by omega));clear gA16 bA16 zA16 Hf hy hM h2;have st55:True:=trivial
          go_wp2_with (first
           | (have q:=st55;clear q;refine wpList_load_mid rfl 54 _ rfl g1 (o1+q*14) rfl [int i64 s0,int i64 s1,int i64 s2,int i64 s3,int i64 s4,int i64 s5,int i64 s6,int i64 s7,int i64 s8,int i64 s9,int i64 s10,int i64 s11,int i64 s12,int i64 s13] _ H9.out Tryz.underlying54 rfl (by kernel_rfl) ?_;simp only [Act.put,qD,qE,qF];clear st55;have st56:True:=trivial))
          go_roundw
          case rel=>exact ⟨q+1,k,c,ao,by go_num,rfl,by omega,hQ⟩
          case measure=>first|omega|(simp [intOf];omega)
        ·obtain rfl:q=nl:=by omega
         have ua:¬((q:Nat):Int)<(q:Int):=by omega
         have hQ:=qh (hA.out.of (L':=(List.range b).flatMap (VW s)++(s.dances.take (j+1)).flatMap λd=>VU b (Qd 0 (VT s d))) (m':=b*1048576+(j+1)*4096) (by rw [uY.out,← List.append_assoc,uZ.out,List.take_of_length_le (Nat.le_of_eq hh.out)]) (by omega));go_wp2_with fail;go_roundw
         case rel=>exact ⟨j+1,k,c,ao,by go_num,rfl,by omega,hQ⟩
         case measure=>first|omega|(simp [intOf];omega)
      ·obtain rfl:j=i:=by omega
       have uW:¬((j:Nat):Int)<(j:Int):=by omega
       have hQ:=qh (hA.out.of (L':=(List.range (b+1)).flatMap (VW s)) (m':=(b+1)*1048576) (by rw [Wz,List.take_of_length_le (Nat.le_of_eq HD.out)];rfl) (by omega));go_wp2_with fail;go_roundw
       case rel=>exact ⟨b+1,k,c,ao,by go_num,rfl,by omega,hQ⟩
       case measure=>first|omega|(simp [intOf];omega)
    ·obtain rfl:b=nB:=by omega
     have uV:¬((b:Nat):Int)<(b:Int):=by omega
     have HC:=hB.out.trans (hA.out.base.mono hB.out.size);have y8:wr.cell? ⟨X8,10,none⟩=some (.slice a3 nS c3):=Aa (Ah HC uH.out) 10 rfl;have hZ:IsRow Ay 14 wr (.slice a3 (DP s).length c3) (DP s):=by rw [Hp.out];exact hc.out.below HC (qn _)
     have uc:=hA.out.few;have uC:=Ev (xs:=Qd 0 ((List.range b).flatMap (VW s))) (k:=14) (enc:=Ay) (λ_=>rfl) (by rw [VV,hA.out.len];unfold maxLen;omega) (by rw [VV,hA.out.len];exact hA.out.own);have CS:=Iu _ _ a3 ao c3 c wr hZ uC;rw [Hp.out,VV,hA.out.len] at CS
     have uD:Qd 0 ((List.range b).flatMap (VW s))=DP s:=by
      have:=Wk s;rw [uU.out,Int.toNat_natCast] at this;exact this
     rw [uD] at CS;simp only [decide_true] at CS;have uf:=qh CS;have ug:=qh (HB.out.trans (HC.mono HB.out.size));clear CS uD hZ uC HC hA
     go_wp2_with (go_at_call 19;refine uf.out.mono ?_;rintro e V20 ⟨rfl,hb⟩;have Hk:=qh (Af ug.out hb);clear hb);go_ret;exact ⟨rfl,by have hq:=Hk.out;first|exact hq|(rw [HM.out] at hq;exact hq)⟩
end
end Go.Proofs.YtbkemlgfdklpfaaGreatDoor
