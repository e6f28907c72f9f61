/- Contracts and plain laws on the way to the statement: part 8. -/
import Derived.Test.YtbkemlgfdklpfaaGreatDoorV6
import Derived.Test.YtbkemlgfdklpfaaGreatDoorProg
import Derived.IntWalk
import Derived.Deep.RegionHeld3
import Derived.Laws.Pointers
import Derived.Test.YtbkemlgfdklpfaaGreatDoorV4
set_option linter.unusedVariables false
set_option linter.unusedSimpArgs false
set_option maxRecDepth 100000
set_option maxHeartbeats 16000000
namespace Go.Proofs.YtbkemlgfdklpfaaGreatDoor
open Go.Value (int)
open Go.IntKind (i64)
section
open Go Go.RowKit
def Ak(c:Int):Ending:=.panicked [{ v:=.iface 40 (int i64 c),recovered:=false }]
theorem Bv(c:Int)(w:World):Calls Tryz.prog 126 #[.bool true,int i64 c] w λe w'=>e=.returned (.tuple #[])∧w=w':=by
 go_enter Tryz.func126,Tryz.ntmps126;go_wp2;go_end0;exact ⟨rfl,rfl⟩
theorem AE(c:Int)(w:World):Calls Tryz.prog 126 #[.bool false,int i64 c] w λe w'=>e=Ak c∧w=w':=by
 go_enter Tryz.func126,Tryz.ntmps126;go_wp2;exact ⟨rfl,rfl,rfl⟩
structure ButOne(R:Nat)(W W':World):Prop where
 os:W'.os=W.os
 tape:W'.tape=W.tape
 output:W'.output=W.output
 size:W.heap.size≤W'.heap.size
 block:∀b,b<W.heap.size→b≠R→W'.heap[b]?=W.heap[b]?
theorem ButOne.of_below{R:Nat}{W W':World}(h:Below W.heap.size W W'):ButOne R W W':=⟨h.os,h.tape,h.output,h.size,λb hb _=>h.block b hb⟩
theorem ButOne.refl(R:Nat)(W:World):ButOne R W W:=⟨rfl,rfl,rfl,qn _,λ_ _ _=>rfl⟩
theorem ButOne.trans{R:Nat}{A B C:World}(h:ButOne R A B)(k:ButOne R B C):ButOne R A C :=
 ⟨k.os.trans h.os,k.tape.trans h.tape,k.output.trans h.output,Nat.le_trans h.size k.size,λb hb hr=>(k.block b (Nat.lt_of_lt_of_le hb h.size) hr).trans (h.block b hb hr)⟩
theorem ButOne.below{R B:Nat}{W W':World}(h:ButOne R W W')(hr:B≤R)(hB:B≤W.heap.size):Below B W W' :=
 ⟨h.os,h.tape,h.output,h.size,λk hk=>h.block k (by omega) (by omega)⟩
theorem ButOne.setCell{W:World}{p:Addr}(v:Value):ButOne p.block W (W.setCell p v) :=
 ⟨rfl,rfl,rfl,by simp [World.setCell],λ_ _ hr=>Below.heap_setCell _ _ _ _ hr⟩
theorem ButOne.cell{R:Nat}{W W':World}(h:ButOne R W W'){a:Addr}{v:Value}(hc:W.cell? a=some v)(hr:a.block≠R):W'.cell? a=some v :=
 (World.cell?_of_block (h.block _ (CN hc) hr)).trans hc
theorem Aj{B:Nat}{a w:World}(h:Below B a w)(n:Nat):Below B a (w.drewN n):=⟨h.os,h.tape,h.output,h.size,h.block⟩
theorem AK{a b:Int}(h:a=b):Ending.returned (int i64 a)=.returned (int i64 b):=by rw [h]
theorem Az{a b:Bool}(h:a=b):Ending.returned (.bool a)=.returned (.bool b):=by rw [h]
theorem Aa{w:World}{g:Nat}{xs:Array Value}{t:TypeId}{f:Nat×Nat}{v:Value}(h:w.heap[g]?=some (.cells xs t f))(r:Nat)(hv:xs[r]?=some v):w.cell? ⟨g,r,none⟩=some v:=by
 rw [← hv];simp [World.cell?,h]
structure CntW(L C:Nat)(left:Int)(W:World):Prop where
 bl:W.heap[L]?=some (.cells #[int i64 left] 3 (0,0))
 bc:W.heap[C]?=some (.cells #[.func (.func 147) #[] #[.pointer (some ⟨L,0,none⟩),.pointer (some ⟨C,0,none⟩)]] 216 (0,0))
theorem CntW.ne{L C:Nat}{left:Int}{W:World}(h:CntW L C left W):C≠L:=by
 rintro rfl;have:=h.bl.symm.trans h.bc;simp at this
theorem CntW.keep{L C:Nat}{left:Int}{W W':World}(h:CntW L C left W)(hb:Below W.heap.size W W'):CntW L C left W' :=
 ⟨(hb.block _ (qs.1 h.bl).1).trans h.bl,(hb.block _ (qs.1 h.bc).1).trans h.bc⟩
def Gm(L C:Nat)(r:Option Int)(W:World)(e:Ending)(W':World):Prop :=
 (∃l,r=some l∧0≤l∧l≤4096∧e=.returned (.tuple #[])∧CntW L C l W'∧ButOne L W W')∨(r=none∧e=Ak 2∧ButOne L W W')
theorem Lt.At.kept1{L:Nat}{W W':World}{T:Lt}{b o:Nat}(h:T.At W b o)(hb:ButOne L W W')(hL:L∉b::T.blocks):T.At W' b o :=
 h.kept (λq v _ hc=>hb.cell hc (λe=>hL (by simp [← e]))) (λc hA q v hc=>hb.cell hc (λe=>hL (by rw [← e];exact List.mem_cons_of_mem _ hA)))
theorem NsAt.kept1{L:Nat}{W W':World}{xs:List RefL}{ns:List Int}(h:NsAt W xs ns)(hb:ButOne L W W')(hL:∀x∈xs,x.b≠L):NsAt W' xs ns :=
 h.kept λx hx v hc=>hb.cell hc (hL x hx)
theorem Lt.At.cells{W:World}{k n:Int}{un:Nm}{ia:Option Addr}{ic:Nat}{its:Lt}{ma:Option Addr}{mc:Nat}{ms:List Mov}{r:Lt}{b o:Nat}{ns:List Int}(h:(Lt.cons k n un ia ic its ma mc ms r).At W b o)(hn:NsAt W ((Lt.cons k n un ia ic its ma mc ms r).refsL b o) ns) :
  ∃(u:Int),W.cell? ⟨b,o,none⟩=some (int i64 k)∧W.cell? ⟨b,o+1,none⟩=some (int i64 n)∧W.cell? ⟨b,o+2,none⟩=some (sv un)∧W.cell? ⟨b,o+3,none⟩=some (int i64 u)∧W.cell? ⟨b,o+4,none⟩=some (.slice ia its.len ic)∧W.cell? ⟨b,o+5,none⟩=some (.slice ma ms.length mc) ∧
   ∃n1 n2 n3,ns=u::(n1++(n2++n3))∧NsAt W (As (blk ma) (off ma) ms) n1∧NsAt W (its.refsL (blk ia) (off ia)) n2∧NsAt W (r.refsL b (o+6)) n3:=by
 obtain ⟨⟨h0,h1,h2,h4,h5⟩,_⟩:=h
 cases ns with
 | nil=>exact hn.elim
 | cons u ns =>
  obtain ⟨g1,g2⟩:=hn;obtain ⟨n1,n',rfl,k1,k2⟩:=g2.split;obtain ⟨n2,n3,rfl,k3,k4⟩:=k2.split;exact ⟨u,h0,h1,h2,g1,h4,h5,n1,n2,n3,rfl,k1,k3,k4⟩
theorem LG(k n:Int)(un:Nm)(its:Its)(ms:List Mov)(r:Its)(d:Nat)(left:Int) :
  (Its.cons k n un its ms r).count d left=if ms.length≤64 then (match its.countL (d+1) left with|none=>none|some l=>r.count d l) else none:=by
 rw [Its.count];unfold Its.countL;by_cases h1:ms.length≤64
 ·by_cases h2:(its.len:Int)≤left∧(its.len=0∨d+1≤16)
  ·rw [if_pos ⟨h1,h2⟩,if_pos h1,if_pos h2]
   cases its.count (d+1) (left-its.len)<;>rfl
  ·rw [if_neg (λh=>h2 h.2),if_pos h1,if_neg h2]
 ·rw [if_neg (λh=>h1 h.1),if_neg h1]
theorem Np(L C:Nat)(n d:Nat)(left:Int)(ia:Option Addr)(ic:Nat)(W:World)(hW:CntW L C left W)(h:left<n∨(0<n∧16<d)) :
  Calls Tryz.prog 147 #[.slice ia n ic,int i64 d,.pointer (some ⟨L,0,none⟩),.pointer (some ⟨C,0,none⟩)] W (Gm L C none W):=by
 have cl:=cell_of_one hW.bl;have hP:Gm L C none W (Ak 2) W:=Or.inr ⟨rfl,rfl,ButOne.refl _ _⟩;have HP:=qh hP;clear hP hW;by_cases h1:(n:Int)≤left
 ·obtain ⟨h2,h3⟩:0<n∧16<d:=by omega
  have h4:((n:Int)==0)=false:=by simp;omega
  have h5:¬(d:Int)≤16:=by omega
  go_enter Tryz.func147,Tryz.ntmps147
  go_wp2_with (go_at_call 126;refine (AE _ _).mono ?_;unfold Ak;rintro e w' ⟨rfl,rfl⟩);exact ⟨rfl,HP.out⟩
 ·go_enter Tryz.func147,Tryz.ntmps147
  go_wp2_with (go_at_call 126;refine (AE _ _).mono ?_;unfold Ak;rintro e w' ⟨rfl,rfl⟩);exact ⟨rfl,HP.out⟩
theorem IR(L C:Nat)(ia:Option Addr)(ic d:Nat)(left:Int)(W:World)(hW:CntW L C left W)(h0:0≤left)(h1:left≤4096) :
  Calls Tryz.prog 147 #[.slice ia Lt.nil.len ic,int i64 d,.pointer (some ⟨L,0,none⟩),.pointer (some ⟨C,0,none⟩)] W (Gm L C (Lt.nil.strip.countL d left) W):=by
 have cl:=cell_of_one hW.bl;have fl:=free_of_one hW.bl;have hB:(CntW L C left (W.setCell ⟨L,0,none⟩ (int i64 left))):=⟨one_setCell hW.bl,(Below.heap_setCell _ _ _ _ hW.ne).trans hW.bc⟩;have hA:ButOne L W (W.setCell ⟨L,0,none⟩ (int i64 left)):=ButOne.setCell (p:=⟨L,0,none⟩) _;have hP:Gm L C (Lt.nil.strip.countL d left) W (.returned (.tuple #[])) (W.setCell ⟨L,0,none⟩ (int i64 left)) :=
  Or.inl ⟨left,by simp [Its.countL,Its.len,Lt.strip,Its.count,h0],h0,h1,rfl,hB,hA⟩
 have HP:=qh hP;have hD:((0:Int)==0)=true:=rfl;clear hP hB hA hW;simp only [Lt.len];go_enter Tryz.func147,Tryz.ntmps147
 go_wp2_with (go_at_call 126;refine (Bv _ _).mono ?_;rintro e w' ⟨rfl,rfl⟩);go_loopw [28] (λiv wr=>iv=int i64 0∧Hid (Gm L C (Lt.nil.strip.countL d left) W (.returned (.tuple #[])) wr)) (λ_ _=>0)
 case atStart=>exact ⟨rfl,HP⟩
 case round =>
  obtain ⟨rfl,hC⟩:=hrel;go_wp2_with fail;go_end0;exact hC.out
theorem LH(L C:Nat)(T:Lt)(hI:∀T':Lt,T'.size<T.size→∀(ia:Option Addr) (ic d:Nat) (left:Int) (ns:List Int) (W:World),d≤17→T'.len≤maxLen→(T'.len=0∨(ia=some ⟨blk ia,off ia,none⟩∧blk ia≠L))→L∉T'.blocks→T'.At W (blk ia) (off ia)→NsAt W (T'.refsL (blk ia) (off ia)) ns→CntW L C left W→0≤left→left≤4096 →
   Calls Tryz.prog 147 #[.slice ia T'.len ic,int i64 d,.pointer (some ⟨L,0,none⟩),.pointer (some ⟨C,0,none⟩)] W (Gm L C (T'.strip.countL d left) W))
  (b o ic d:Nat) (left:Int) (ns:List Int) (W:World) (hd:d≤17) (hq:T.len≤maxLen) (hb:T.len=0∨b≠L) (hH:L∉T.blocks) (hT:T.At W b o) (hN:NsAt W (T.refsL b o) ns) (hW:CntW L C left W) (h0:0≤left) (h1:left≤4096)
  (hU:(T.len:Int)≤left) (hV:T.len=0∨d≤16) :
  Calls Tryz.prog 147 #[.slice (some ⟨b,o,none⟩) T.len ic,int i64 d,.pointer (some ⟨L,0,none⟩),.pointer (some ⟨C,0,none⟩)] W (Gm L C (T.strip.count d (left-T.len)) W):=by
 have cl:=cell_of_one hW.bl;have fl:=free_of_one hW.bl;have hO:(CntW L C (left-T.len) (W.setCell ⟨L,0,none⟩ (int i64 (left-T.len)))):=⟨one_setCell hW.bl,(Below.heap_setCell _ _ _ _ hW.ne).trans hW.bc⟩;have hA:ButOne L W (W.setCell ⟨L,0,none⟩ (int i64 (left-T.len))):=ButOne.setCell (p:=⟨L,0,none⟩) _;have hP:=hT.kept1 hA;have hQ:=qh hO;have hD:=qh hA;have HI:=qh hI;have h9:=qh hH;have HA:=hU;rcases hV with hz|hs
 ·obtain rfl:=Lt.len_zero hz
  have ht:((0:Int)==0)=true:=rfl;simp only [Lt.len,Lt.strip,Its.count] at *;clear hO hA hT hN hI hH hP hW;go_enter Tryz.func147,Tryz.ntmps147
  go_wp2_with (go_at_call 126;refine (Bv _ _).mono ?_;rintro e w' ⟨rfl,rfl⟩);go_loopw [28] (λiv wr=>iv=int i64 0∧Hid (Gm L C (some (left-0)) W (.returned (.tuple #[])) wr)) (λ_ _=>0)
  case atStart=>exact ⟨rfl,qh (Or.inl ⟨left-0,rfl,by omega,by omega,rfl,by simpa using hQ.out,by simpa using hD.out⟩)⟩
  case round =>
   obtain ⟨rfl,hC⟩:=hrel;go_wp2_with fail;go_end0;simpa using hC.out
 ·by_cases hz:T.len=0
  ·obtain rfl:=Lt.len_zero hz
   have ht:((0:Int)==0)=true:=rfl;simp only [Lt.len,Lt.strip,Its.count] at *;clear hO hA hT hN hI hH hP hW;go_enter Tryz.func147,Tryz.ntmps147
   go_wp2_with (go_at_call 126;refine (Bv _ _).mono ?_;rintro e w' ⟨rfl,rfl⟩);go_loopw [28] (λiv wr=>iv=int i64 0∧Hid (Gm L C (some (left-0)) W (.returned (.tuple #[])) wr)) (λ_ _=>0)
   case atStart=>exact ⟨rfl,qh (Or.inl ⟨left-0,rfl,by omega,by omega,rfl,by simpa using hQ.out,by simpa using hD.out⟩)⟩
   case round =>
    obtain ⟨rfl,hC⟩:=hrel;go_wp2_with fail;go_end0;simpa using hC.out
  have he:b≠L:=hb.resolve_left hz
  have hB:∀c∈b::T.blocks,c≠L:=by
   intro c hc e;rcases List.mem_cons.1 hc with rfl|hc
   ·exact he e
   ·exact hH (e▸hc)
  have HT:=qh (hP (λh=>hB _ h rfl))
  have HN:=qh (hN.kept1 hA (λx hx e=>by
   rcases Lt.refsL_mem hx with ⟨h,_⟩|h
   ·exact he (h.symm.trans e)
   ·exact hH (e▸h)))
  have hu:=qh hB;have HB:((T.len:Int)==0)=false:=by simp;omega
  have hf:(d:Int)≤16:=by omega
  clear hO hA hT hN hI hH hP hW hB;generalize hK:T.strip.count d (left-T.len)=res;have hX:=qh hK;clear hK hb;generalize hn:T.len=n at *;have hv:=qh hn;clear hn;go_enter Tryz.func147,Tryz.ntmps147
  go_wp2_with (go_at_call 126;refine (Bv _ _).mono ?_;rintro e w' ⟨rfl,rfl⟩);have HG:=hQ;generalize W.setCell ⟨L,0,none⟩ (int i64 (left-n))=W1 at *;clear hQ;go_loopw [28] (λiv wr=>∃(i:Nat) (R:Lt) (l:Int) (ks:List Int),iv=int i64 i∧i+R.len=n∧Hid (R.strip.count d l=res)∧Hid (R.size≤T.size)∧Hid (∀c∈b::R.blocks,c≠L)∧Hid (R.At wr b (o+i*6))∧Hid (NsAt wr (R.refsL b (o+i*6)) ks)∧Hid (CntW L C l wr)∧0≤l∧l≤4096∧Hid (ButOne L W wr)) (λiv _=>n+1-(intOf iv).toNat)
  case atStart=>exact ⟨0,T,left-n,ns,rfl,by rw [hv.out];omega,hX,qh (qn _),hu,by simpa [Hid] using HT.out,by simpa [Hid] using HN.out,HG,by omega,by omega,hD⟩
  case round =>
   obtain ⟨i,R,l,ks,rfl,hg,hE,hh,hB,hR,hJ,hC,hj,hk,hS⟩:=hrel
   cases R with
   | nil =>
    simp only [Lt.len] at hg;obtain rfl:i=n:=by omega
    clear hR hJ;have hc:=hE.out;simp only [Lt.strip,Its.count] at hc;go_wp2_with fail;go_end0;exact Or.inl ⟨l,hc.symm,hj,hk,rfl,hC.out,hS.out⟩
   | cons k n' un ia ic' its ma mc ms r =>
    simp only [Lt.len] at hg;have hi:(i:Int)<(n:Int):=by omega
    obtain ⟨u,g0,g1,g2,g3,g4,g5,n1,n2,n3,rfl,k1,k2,k3⟩:=Lt.At.cells hR.out hJ.out;obtain ⟨_,⟨m1,m2,m3⟩,⟨i1,i2,i3⟩,hr⟩:=hR.out;have cc:=cell_of_one hC.out.bc;have hF:=hE.out;simp only [Lt.strip] at hF;rw [LG] at hF;by_cases hm:ms.length≤64
    ·have hw:(ms.length:Int)≤64:=by omega
     rw [if_pos hm] at hF;have HR:=hR;have hy:=hJ;have hl:((d:Int)+1)=((d+1:Nat):Int):=by omega
     obtain ⟨w2,hY⟩:∃w2,wr.alloc (.cells #[int i64 k,int i64 n',sv un,int i64 u,.slice ia its.len ic',.slice ma ms.length mc] 121)=w2:=⟨_,rfl⟩;have hG:Below wr.heap.size wr w2:=by rw [← hY];exact (Below.refl _ _).alloc (qn _) _
     have c4:w2.cell? ⟨wr.heap.size,4,none⟩=some (.slice ia its.len ic'):=by rw [← hY];exact Aa (heap_alloc_new wr _) 4 rfl
     have c5:w2.cell? ⟨wr.heap.size,5,none⟩=some (.slice ma ms.length mc):=by rw [← hY];exact Aa (heap_alloc_new wr _) 5 rfl
     have cw2:=(hC.out.keep hG);have cc2:=cell_of_one cw2.bc
     have hZ:=HI.out its (by have:=hh.out;simp only [Lt.size] at this;omega) ia ic' (d+1) l n2 w2 (by omega) i2 (by
       by_cases ha:its.len=0
       ·exact Or.inl ha
       ·exact Or.inr ⟨i1.resolve_left ha,hB.out _ (by simp [Lt.blocks,ha])⟩) (λh=>hB.out _ (by simp [Lt.blocks,h]) rfl) (i3.below hG) (k2.below hG) cw2 hj hk
     rw [← hl] at hZ;have h2:=qh hZ;clear hl;have h3:=qh (hr.below hG);have h4:=qh (k3.below hG);have ho:=qh hG;have hp:=qh hF;clear hR hJ HT HN hZ k1 k2 k3 i3 m3 hr hG cw2 hF hE
     go_wp2_with (first|(go_at_call 126;refine (Bv _ _).mono ?_;rintro e w' ⟨rfl,rfl⟩)|(go_at_call 147;refine h2.out.mono ?_;unfold Gm Ak;rintro e w3 (⟨l2,e2,h5,h6,rfl,h7,hL⟩|⟨e2,rfl,hL⟩)))
     ·have hM:=hp.out
      rw [e2] at hM;have h8:ButOne L wr w3:=(ButOne.of_below ho.out).trans hL;go_roundw
      case rel=>exact ⟨i+1,r,l2,n3,by go_num,by omega,hM,qh (by have:=hh.out;simp only [Lt.size] at this;omega),qh (λc hc=>hB.out c (by
        rcases List.mem_cons.1 hc with rfl|hc
        ·exact List.mem_cons_self
        ·exact List.mem_cons_of_mem _ (by simp [Lt.blocks,hc]))),qh (by rw [Nat.add_mul,Nat.one_mul,← Nat.add_assoc];exact h3.out.kept1 hL (λh=>hB.out L (by
        rcases List.mem_cons.1 h with rfl|h
        ·exact List.mem_cons_self
        ·exact List.mem_cons_of_mem _ (by simp [Lt.blocks,h])) rfl)),qh (by rw [Nat.add_mul,Nat.one_mul,← Nat.add_assoc];exact h4.out.kept1 hL (λx hx e=>hB.out L (by
        rcases Lt.refsL_mem hx with ⟨h,_⟩|h
        ·rw [← e,h];exact List.mem_cons_self
        ·rw [← e];exact List.mem_cons_of_mem _ (by simp [Lt.blocks,h])) rfl)),qh h7,h5,h6,qh (hS.out.trans h8)⟩
      case measure=>simp [intOf];omega
     ·have hM:=hp.out
      rw [e2] at hM;exact ⟨rfl,Or.inr ⟨hM.symm,rfl,hS.out.trans ((ButOne.of_below ho.out).trans hL)⟩⟩
    ·have hw:¬(ms.length:Int)≤64:=by omega
     rw [if_neg hm] at hF;have HR:=hR;have hy:=hJ;clear hR hJ HT HN k1 k2 k3 i3 m3 hr
     go_wp2_with (go_at_call 126;refine (AE _ _).mono ?_;unfold Ak;rintro e w' ⟨rfl,rfl⟩);exact ⟨rfl,Or.inr ⟨hF.symm,rfl,hS.out.trans (ButOne.of_below ((Below.refl _ _).alloc (qn _) _))⟩⟩
theorem No(L C:Nat):∀(s:Nat) (T:Lt),T.size≤s→∀(ia:Option Addr) (ic d:Nat) (left:Int) (ns:List Int) (W:World),d≤17→T.len≤maxLen→(T.len=0∨(ia=some ⟨blk ia,off ia,none⟩∧blk ia≠L))→L∉T.blocks→T.At W (blk ia) (off ia)→NsAt W (T.refsL (blk ia) (off ia)) ns→CntW L C left W→0≤left→left≤4096 →
   Calls Tryz.prog 147 #[.slice ia T.len ic,int i64 d,.pointer (some ⟨L,0,none⟩),.pointer (some ⟨C,0,none⟩)] W (Gm L C (T.strip.countL d left) W):=by
 intro s
 induction s with
 | zero =>
  intro T hs ia ic d left ns W hd hA hb hB hT hN hW h0 h1
  cases T with
  | cons=>simp [Lt.size] at hs
  | nil=>exact IR L C ia ic d left W hW h0 h1
 | succ s ih =>
  intro T hs ia ic d left ns W hd hA hb hB hT hN hW h0 h1;by_cases h:(T.len:Int)≤left∧(T.len=0∨d≤16)
  ·have e:T.strip.countL d left=T.strip.count d (left-T.len):=by
    unfold Its.countL;rw [T.strip_len,if_pos h]
   rw [e];by_cases hz:T.len=0
   ·obtain rfl:=Lt.len_zero hz
    have:=IR L C ia ic d left W hW h0 h1;simpa [Its.countL,Its.len,Lt.strip,Its.count,h0,Lt.len] using this
   ·obtain ⟨e1,e2⟩:=hb.resolve_left hz
    rw [e1];exact LH L C T (λT' hC=>ih T' (by omega)) (blk ia) (off ia) ic d left ns W hd hA (Or.inr e2) hB hT hN hW h0 h1 h.1 h.2
  ·have e:T.strip.countL d left=none:=by
    unfold Its.countL;rw [T.strip_len,if_neg h]
   rw [e];exact Np L C T.len d left ia ic W hW (by omega)
end
end Go.Proofs.YtbkemlgfdklpfaaGreatDoor
