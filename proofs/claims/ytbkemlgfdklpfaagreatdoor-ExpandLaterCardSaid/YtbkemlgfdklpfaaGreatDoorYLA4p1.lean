/- The walk of the statement: part 1. -/
import Derived.Test.YtbkemlgfdklpfaaGreatDoorZ40
import Derived.Test.YtbkemlgfdklpfaaGreatDoorZ34
import Derived.Test.YtbkemlgfdklpfaaGreatDoorZ41
import Derived.Test.YtbkemlgfdklpfaaGreatDoorZ4
set_option linter.unusedVariables false
set_option linter.unusedSimpArgs false
set_option maxRecDepth 100000
set_option maxHeartbeats 16000000
namespace Go.Proofs.YtbkemlgfdklpfaaGreatDoor
open Go.Value (int)
open Go.IntKind (i64)
section
open Go Go.RowKit Go.Shelf Go.Deep
def Dan.up(d:Dan):Dan:={ d with bar:=d.bar+1 }
def Sgn.up(x:Sgn):Sgn:={ x with bar:=x.bar+1 }
def Ls.only(s:Ls)(a:Option Addr)(c:Nat)(d:Dan):Ls:={ s with da:=a,dc:=c,dances:=[d] }
theorem Wi(s:Ls)(a b:Option Addr)(c k:Nat)(d:Dan)(ns:List Int):Dd (s.only b k d.up).strip ns=Dd (s.only a c d).strip ns:=rfl
theorem Wh{s:Ls}{a:Option Addr}{c:Nat}{d:Dan}{ns:List Int}(h:Bc (s.only a c d) ns=0)(b:Option Addr)(k:Nat):Bc (s.only b k d.up) ns=0∨Bc (s.only b k d.up) ns=180:=by
 have hc:=(Le h).1;unfold Bc;rw [if_pos ((Wi s a b c k d ns).trans hc)]
 split
 ·exact Or.inl rfl
 ·exact Or.inr rfl
theorem VW{n:Nat}{R:List Sgn}(hR:∀s∈R,0≤s.bar∧s.bar<n)(hs:R.Pairwise (λx y=>C3 y x=false)):IT n R=R :=
 EO IR _ _ (JF n R) hs λx=>JE hR x
theorem H6(g:Nm→Int)(rl:Int):∀(tt:Int) (l:List BarR),(Bh g rl tt l).Pairwise (λx y=>C3 y x=false)
 | _,[]=>List.Pairwise.nil
 | tt,y::r=>by
  rw [Bh];refine List.pairwise_append.2 ⟨?_,H6 g rl (tt+1) r,λx hx z hz=>?_⟩
  ·unfold sgs
   refine List.Pairwise.map _ (R:=λ_ _=>True) (λx z _=>?_) (List.pairwise_of_forall λ_ _=>trivial);unfold C3 Lb;simp
  ·have:=GW g rl (tt+1) r z hz
   unfold sgs at hx;obtain ⟨m,_,rfl⟩:=List.mem_map.1 hx;unfold C3;have e:(Lb m (g m.wn) y.mir rl tt).bar=tt:=rfl;rw [e];exact decide_eq_false (by omega)
theorem H9(g:Nm→Int)(rl:Int):∀(tt:Int) (l:List BarR),Bh g rl (tt+1) l=(Bh g rl tt l).map Sgn.up
 | _,[]=>rfl
 | tt,y::r=>by
  rw [Bh,Bh,List.map_append,H9 g rl (tt+1) r]
  congr 1
  unfold sgs;rw [List.map_map]
  rfl
theorem H7(s:Ls)(a:Option Addr)(c:Nat)(d:Dan):Fk (s.only a c d)=Bh (I8 s.strip) (I8 s.strip d.rn) d.bar ((NB s d).bars (JB s.ltsL (AI s.strip))):=by
 have:Fk (s.only a c d)=Bh (I8 s.strip) (I8 s.strip d.rn) d.bar ((NB s d).bars (JB s.ltsL (AI s.strip)))++[]:=rfl;rw [this,List.append_nil]
theorem Wf(s:Ls)(a b:Option Addr)(c k:Nat)(d:Dan):Fk (s.only b k d.up)=(Fk (s.only a c d)).map Sgn.up:=by
 rw [H7,H7,← H9]
 rfl
theorem H8{s:Ls}{a:Option Addr}{c:Nat}{d:Dan}{ns:List Int}(h:Bc (s.only a c d) ns=0):DP (s.only a c d)=Qd 0 (Fk (s.only a c d)):=by
 unfold DP;rw [VW (Qr h) (by rw [H7];exact H6 _ _ _ _)]
theorem VV(f:Sgn→Sgn)(hf:∀(x:Sgn) (k:Int),f { x with id:=k }={ f x with id:=k }):∀(k:Int) (l:List Sgn),Qd k (l.map f)=(Qd k l).map f
 | _,[]=>rfl
 | k,x::r=>by 
  rw [List.map_cons,Qd,Qd,List.map_cons,VV f hf (k+1) r];exact congrArg (·::_) (hf x k).symm
theorem Wg{s:Ls}{a b:Option Addr}{c k:Nat}{d:Dan}{ns:List Int}(h:Bc (s.only a c d) ns=0)(h2:Bc (s.only b k d.up) ns=0):DP (s.only b k d.up)=(DP (s.only a c d)).map Sgn.up:=by
 rw [H8 h,H8 h2,Wf s a b c k d,VV Sgn.up (λ_ _=>rfl)]
theorem VZ(s:Ls)(a b:Option Addr)(c k:Nat)(d:Dan):(Fk (s.only b k d.up)).length=(Fk (s.only a c d)).length:=by
 rw [Wf s a b c k d,List.length_map]
theorem VT{s:Ls}{ns:List Int}(h:Bc s ns=0):∀x∈DP s,0≤x.bar∧x.bar<4096:=by
 have hR:=Qr h
 have hA:s.bars≤4096:=by
  have hL:=(Le h).2;unfold Iy at hL;simp only [Bool.and_eq_true,decide_eq_true_eq] at hL;exact (Fh hL.2.2.2.1).2
 have key:∀(k:Int) (l:List Sgn),(∀x∈l,0≤x.bar∧x.bar<4096)→∀x∈Qd k l,0≤x.bar∧x.bar<4096:=by
  intro k l
  induction l generalizing k with
  | nil=>intro _ x hx;cases hx
  | cons y r ih =>
   intro hl x hx;rw [Qd] at hx;rcases List.mem_cons.1 hx with rfl|hx
   ·exact hl y (by simp)
   ·exact ih (k+1) (λz hz=>hl z (by simp [hz])) x hx
 refine key _ _ λx hx=>?_
 unfold IT at hx;obtain ⟨b,hb,hx⟩:=List.mem_flatMap.1 hx;have hb:=List.mem_range.1 hb;have:=(List.mem_filter.1 hx).2;have e:x.bar=(b:Int):=by simpa using this
 omega
theorem VU{w:World}:∀{xs ys:List RefL} {ks:List Int},NsAt w (xs++ys) ks→∃k1 k2,NsAt w xs k1∧NsAt w ys k2
 | [],_,ks,h=>⟨[],ks,trivial,h⟩
 | x::xs,_,[],h=>h.elim
 | x::xs,ys,k::ks,⟨h1,h2⟩=>by
  obtain ⟨k1,k2,h3,h4⟩:=VU h2;exact ⟨k::k1,k2,⟨h1,h3⟩,h4⟩
def VX(d:Dan)(n k:Int):List Value:=[sv d.rn,int i64 n,sv d.pn,int i64 k,int i64 d.bar,.bool d.mirror]
theorem Wa{w:World}{b:Nat}:∀{o:Nat} {ds:List Dan} {ks:List Int} {i:Nat} {d:Dan},Bq w b o ds→NsAt w (An b o ds) ks→ds[i]?=some d→∃n k,w.rangeAt b (o+i*6) (VX d n k)
 | _,[],_,_,_,_,_,h=>by simp at h
 | o,x::r,n::k::ks,0,d,⟨⟨h0,h2,h4,h5⟩,_⟩,⟨h1,h3,_⟩,h=>by
  simp at h;subst h;refine ⟨n,k,λj u hj=>?_⟩;rw [Nat.zero_mul,Nat.add_zero]
  match j,hj with
  | 0,hj=>cases hj;exact h0
  | 1,hj=>cases hj;exact h1
  | 2,hj=>cases hj;exact h2
  | 3,hj=>cases hj;exact h3
  | 4,hj=>cases hj;exact h4
  | 5,hj=>cases hj;exact h5
  | j+6,hj=>simp [VX] at hj
 | o,x::r,n::k::ks,i+1,d,⟨_,hr⟩,⟨_,_,hk⟩,h=>by
  have:=Wa (i:=i) hr hk (by simpa using h);rw [show o+(i+1)*6=o+6+i*6 by omega];exact this
theorem Wc{s:Ls}{w V:World}{k1:List Int}{G o c:Nat}{d:Dan}{n k:Int}(hA:s.At w)(hN:NsAt w (Ap s.phrases) k1)(hb:Below w.heap.size w V)(h:V.rangeAt G o (VX d n k)):(s.only (some ⟨G,o,none⟩) c d).At V∧NsAt V (s.only (some ⟨G,o,none⟩) c d).refs (k1++[n,k]):=by
 have hA:=hA.below hb;have a0:=h 0 _ rfl;have a1:=h 1 _ rfl;have a2:=h 2 _ rfl;have a3:=h 3 _ rfl;have a4:=h 4 _ rfl;have a5:=h 5 _ rfl;exact ⟨⟨hA.roles,hA.tempos,hA.pauses,hA.spans,hA.pform,hA.plen,hA.phrases,Or.inr rfl,(show 1≤maxLen by decide),⟨a0,a2,a4,a5⟩,trivial⟩,(hN.below hb).append ⟨a1,a3,trivial⟩⟩
def wkC(s:Ls)(ra a0 a1 a2 a3:Option Addr)(rc c0 c1 c2 c3 n:Nat):Array Value:=#[int i64 s.wd,int i64 s.dp,int i64 (mkA s.t0 s.t1),int i64 (mkB s.t0 s.t1),int i64 (mkC s.t0 s.t1),.slice ra s.roles.length rc,int i64 s.bars,.slice a0 s.tempos.length c0,.slice a1 s.pauses.length c1,.slice a2 s.spans.length c2,.slice a3 n c3]
theorem We(s:Ls)(ns:List Int)(w:World)(hA:s.At w)(hN:NsAt w s.refs ns)(he:Env w):Calls Tryz.prog 11 #[s.val] w λe w'=>Below w.heap.size w w' ∧
  ((∃k:Int,k≠0∧((Bc s ns≠0∧k=Bc s ns)∨s.roles=[]∨4096<(Fk s).length)∧e=.returned (.tuple #[.agg wkZ,int i64 k])) ∨
  (Bc s ns=0∧s.roles≠[]∧(Fk s).length≤4096∧∃(ra a0 a1 a2 a3:Option Addr) (rc c0 c1 c2 c3:Nat),e=.returned (.tuple #[.agg (wkC s ra a0 a1 a2 a3 rc c0 c1 c2 c3 (DP s).length),int i64 0])∧IsRow Ay 14 w' (.slice a3 (DP s).length c3) (DP s))):=by
 by_cases hs:Bc s ns=0
 ·by_cases hr:s.roles=[]
  ·refine (KJ s ns w hA hN he hs hr).mono ?_
   rintro e w' ⟨rfl,hb⟩;exact ⟨hb,Or.inl ⟨190,by decide,Or.inr (Or.inl hr),rfl⟩⟩
  ·refine (M7 s ns w hA hN he hs hr).mono ?_
   rintro e w' ⟨hb,h⟩;refine ⟨hb,?_⟩;rcases h with ⟨h,rfl⟩|⟨h,ra,a0,a1,a2,a3,rc,c0,c1,c2,c3,rfl,_,_,_,_,h5⟩
   ·exact Or.inl ⟨2,by decide,Or.inr (Or.inr h),rfl⟩
   ·exact Or.inr ⟨hs,hr,h,ra,a0,a1,a2,a3,rc,c0,c1,c2,c3,rfl,h5.1⟩
 ·refine (M9 s ns _ w hA hN he rfl hs).mono ?_
  rintro e w' ⟨rfl,hb⟩;exact ⟨hb,Or.inl ⟨_,hs,Or.inl ⟨hs,rfl⟩,rfl⟩⟩
theorem Wj{s:Ls}{a:Option Addr}{c:Nat}{d:Dan}{ns:List Int}(h:Bc (s.only a c d) ns=0):0≤d.bar∧d.bar<4096:=by
 have hL:=(Le h).2;unfold Iy at hL;simp only [Bool.and_eq_true,decide_eq_true_eq] at hL;obtain ⟨_,_,_,kc,_,_,kd⟩:=hL;have hB:=Fh kc;have hA:=List.all_eq_true.1 kd d (List.mem_singleton.2 rfl);unfold CQ at hA;simp only [Bool.and_eq_true,decide_eq_true_eq] at hA;have hb:=AM.1 hA.1;omega
theorem Wd{W W':World}{D n c:Nat}{cs:Array Value}{ty:TypeId}{ao:Option Addr}{ss:List Sgn}(h:IsRow Ay 14 W (.slice ao n c) ss)(hD:W.heap[D]?=some (.cells cs ty (0,0)))(hs:cs.size<14)(ho:∀b,b≠D→W'.heap[b]?=W.heap[b]?)(hz:W.heap.size≤W'.heap.size):IsRow Ay 14 W' (.slice ao n c) ss:=by
 obtain ⟨ao',c',e,hl,h⟩:=h;refine ⟨ao',c',e,hl,?_⟩;rcases h with h|⟨b,o,e2,hA,hb⟩
 ·exact Or.inl h
 ·cases ss with
  | nil=>exact Or.inl rfl
  | cons x r =>
   refine Or.inr ⟨b,o,e2,?_,Nat.lt_of_lt_of_le hb hz⟩
   have hC:b≠D:=λe3=>by
    subst e3;have hB:=hA 0 x rfl 13 (int i64 x.td) rfl;rw [World.cell?,hD] at hB;simp only [Nat.zero_mul,Nat.add_zero] at hB;rw [Array.getElem?_eq_none (by omega)] at hB
    split at hB<;>cases hB
   intro i y hi j u hu;rw [World.cell?_of_block (ho b hC)];exact hA i y hi j u hu
theorem VY(s:Ls)(ns:List Int)(n1:Nat)(w:World)(hA:s.At w)(hN:NsAt w s.refs ns)(hE:∀V,Below w.heap.size w V→Env V∧EnvK V)(h1:n1<256) :
  Calls Tryz.prog 7 #[s.val,.int .u8 n1] w λe w'=>e=.returned (.bool true)∧Below w.heap.size w w':=by
 have HE:=qh hE;have HA:=qh hA;have HN:=qh hN;have hv:s.val=.agg s.cells:=rfl;rw [hv];obtain ⟨nD,h6⟩:∃n,s.dances.length=n:=⟨_,rfl⟩;have HD:=qh h6;have h7:nD≤maxLen:=by rw [← h6];exact hA.dlen
 unfold maxLen at h7;obtain ⟨V1,e1,g1,b1,z1⟩:=Ag w s.cells 30;obtain ⟨X,hX⟩:∃X,w.heap.size=X:=⟨_,rfl⟩;rw [hX] at g1;have HX:=qh g1;have HB:=qh b1;have hh:=qh hX;clear g1 b1 z1 hE hA hN hv h6;have st0:True:=trivial;go_enter Tryz.func7,Tryz.ntmps7
 go_wp2_with (first
  | (have q:=st0;clear q;go_at_call 9;refine (Uy _ (λV hV=>HE.out V (Af HB.out hV))).mono ?_;rintro e V2 ⟨rfl,hb⟩;replace HB:=qh (Af HB.out hb);replace HX:=qh (Ah hb HX.out);clear hb;clear st0;have st1:True:=trivial)
  | (have q:=st1;clear q;refine wpList_load_row rfl 30 _ rfl X rfl 30 s.cells (0,0) _ HX.out Tryz.underlying30 rfl (by kernel_rfl) ?_;simp only [Act.put,qD,qE,qF];clear st1;have st2:True:=trivial))
 have hI:Value.agg s.cells=s.val:=rfl;rw [hI];go_at_call 10;refine (Ux s V2 (HA.out.below HB.out)).mono ?_;rintro e V3 ⟨r,rfl,hb⟩
 replace HB:=qh (Af HB.out hb)
 replace HX:=qh (Ah hb HX.out)
 clear hb hI e1
 cases r with
 | false =>
  go_wp2_with fail;go_ret;exact ⟨rfl,by have hq:=HB.out;first|exact hq|(rw [hh.out] at hq;exact hq)⟩
 | true =>
 have y11:V3.cell? ⟨X,11,none⟩=some (.slice s.da nD s.dc):=by rw [← HD.out];exact Aa HX.out 11 rfl
 by_cases hn:nD=0
 ·subst hn
  go_wp2_with fail;go_ret;exact ⟨rfl,by have hq:=HB.out;first|exact hq|(rw [hh.out] at hq;exact hq)⟩
 have Hk:¬(nD:Int)=0:=by omega
 have Hw:((nD:Int)==0)=false:=by simpa using Hk
 go_wp2_with fail;obtain ⟨i,hi⟩:∃i,n1 % nD=i:=⟨_,rfl⟩;have Hl:(n1:Int).tmod (nD:Int)=(i:Int):=by rw [← hi];exact Int.ofNat_tmod n1 nD
 have Hm:i<nD:=by rw [← hi];exact Nat.mod_lt _ (by omega)
 have Hn:(i:Int)<(nD:Int):=by omega
 have Hx:IntKind.i64.wrap (n1:Int)=(n1:Int):=IntWalk.i64_in _ (by omega);obtain ⟨d,hd⟩:∃d,s.dances[i]?=some d:=⟨_,qg (by rw [HD.out];exact Hm)⟩;obtain ⟨k1,k2,HV,h8⟩:=VU HN.out;obtain ⟨nr,np,hF⟩:=Wa HA.out.dances h8 hd;have HW:=HA.out.dform.resolve_left (λe=>by rw [e] at hd;simp at hd);rw [HW] at y11;generalize blk s.da=fb at *;generalize off s.da=fo at *;have HY:=qh HV;have hm:Hid (w.rangeAt fb (fo+i*6) [sv d.rn,int i64 nr,sv d.pn,int i64 np,int i64 d.bar,.bool d.mirror]):=qh hF;clear hi HV h8 hF HW;obtain ⟨wd,hZ⟩:∃wd:World,{ V3 with drawn:=V3.drawn+1 }=wd:=⟨_,rfl⟩;have hO:Below V3.heap.size V3 wd:=by rw [← hZ];exact (Below.refl _ _).drew
 have hJ:=qh (show wd.cell? ⟨X,11,none⟩=some (.slice (some ⟨fb,fo,none⟩) nD s.dc)∧wd.rangeAt fb (fo+i*6) [sv d.rn,int i64 nr,sv d.pn,int i64 np,int i64 d.bar,.bool d.mirror] from ⟨Ad hO y11,λu v hv=>Ad (Af HB.out hO) (hm.out u v hv)⟩)
 replace HB:=qh (Af HB.out hO)
 replace HX:=qh (Ah hO HX.out)
 clear y11;refine wp_region_held (S:=λV=>V.cell? ⟨X,11,none⟩=some (.slice (some ⟨fb,fo,none⟩) nD s.dc)∧V.rangeAt fb (fo+i*6) [sv d.rn,int i64 nr,sv d.pn,int i64 np,int i64 d.bar,.bool d.mirror]) (by kernel_rfl) ?_;have h9:=qh hZ;clear hZ hO;rw [h9.out];refine tk 0 _ (.pointer (some ⟨X,11,none⟩)) rfl (λV hb=>by go_simp) hJ.out ?_
 try simp only [Act.put,qz]
 refine tk 1 _ (.slice (some ⟨fb,fo,none⟩) nD s.dc) rfl (λV hb=>by have q0:V.cell? ⟨X,11,none⟩=some (.slice (some ⟨fb,fo,none⟩) nD s.dc):=hb.1;go_simp) hJ.out ?_
 try simp only [Act.put,qz]
 refine tk 2 _ (.int .u8 (n1:Nat)) rfl (λV hb=>by go_simp) hJ.out ?_
 try simp only [Act.put,qz]
 refine tk 3 _ (int i64 (n1:Nat)) rfl (λV hb=>by go_simp) hJ.out ?_
 try simp only [Act.put,qz]
 refine tk 4 _ (.pointer (some ⟨X,11,none⟩)) rfl (λV hb=>by go_simp) hJ.out ?_
 try simp only [Act.put,qz]
 refine tk 5 _ (.slice (some ⟨fb,fo,none⟩) nD s.dc) rfl (λV hb=>by have q0:V.cell? ⟨X,11,none⟩=some (.slice (some ⟨fb,fo,none⟩) nD s.dc):=hb.1;go_simp) hJ.out ?_
 try simp only [Act.put,qz]
 refine tk 6 _ (int i64 (nD:Nat)) rfl (λV hb=>by go_simp) hJ.out ?_
 try simp only [Act.put,qz]
 refine tk 7 _ (int i64 (i:Nat)) rfl (λV hb=>by go_simp) hJ.out ?_
 try simp only [Act.put,qz]
 refine tk 8 _ (.pointer (some ⟨fb,fo+i*6,none⟩)) rfl (λV hb=>by go_simp) hJ.out ?_
 try simp only [Act.put,qz]
 refine tq 9 _ (.agg #[sv d.rn,int i64 nr,sv d.pn,int i64 np,int i64 d.bar,.bool d.mirror]) rfl (by kernel_rfl) (λ_ _ _ h=>h) (yieldsIf_load_mid (by kernel_rfl) 64 _ rfl fb (fo+i*6) rfl [sv d.rn,int i64 nr,sv d.pn,int i64 np,int i64 d.bar,.bool d.mirror] _ (λV hb=>hb.2) Tryz.underlying64 rfl (by kernel_rfl)) hJ.out ?_
 try simp only [Act.put,qz]
 refine tr 10 _ (by kernel_rfl) rfl λK1 hK=>?_
 obtain ⟨A5,xA5,gA5,bA5,zA5⟩:=Ag wd #[sv [],int i64 0,sv [],int i64 0,int i64 0,.bool false] 64;obtain ⟨D,HC⟩:∃X,wd.heap.size=X:=⟨_,rfl⟩;rw [HC] at gA5;go_simp
 (try rw [xA5])
 have HZ:=qh (Af HB.out bA5);have Ha:=qh (Ah bA5 HX.out);have G5:=qh gA5;have hP:Hid (X<D∧w.heap.size≤D):=qh ⟨by rw [← HC];exact (qs.1 HX.out).1,by rw [← HC];exact HB.out.size⟩
 replace hJ:=qh (show A5.cell? ⟨X,11,none⟩=some (.slice (some ⟨fb,fo,none⟩) nD s.dc)∧A5.rangeAt fb (fo+i*6) [sv d.rn,int i64 nr,sv d.pn,int i64 np,int i64 d.bar,.bool d.mirror] from ⟨Ad bA5 hJ.out.1,λu v hv=>Ad bA5 (hJ.out.2 u v hv)⟩)
 clear HB HX gA5 bA5 zA5;refine hK.out _ _ hJ.out (λ_=>?_);clear hK K1
 try simp only [Act.put,qz]
 refine tr 11 _ (by kernel_rfl) rfl λK1 hK=>?_
 (try rw [if_pos (by kernel_rfl)])
 obtain ⟨W5,e5,g5,b5⟩:=AP (cs:=#[sv d.rn,int i64 nr,sv d.pn,int i64 np,int i64 d.bar,.bool d.mirror]) G5.out HZ.out hP.out.2;have o5:=λb hb=>setRow_other A5 D b #[sv d.rn,int i64 nr,sv d.pn,int i64 np,int i64 d.bar,.bool d.mirror] hb
 rw [e5] at o5;refine wp_store_row 64 _ _ rfl D #[sv d.rn,int i64 nr,sv d.pn,int i64 np,int i64 d.bar,.bool d.mirror] rfl rfl 64 _ G5.out (by kernel_rfl) rfl (by simp [Value.oneCell']) ?_;rw [e5];have HB:=qh b5;have hB:=qh g5;have HX:=qh ((o5 X (by have:=hP.out.1;omega)).trans Ha.out);have ho:=qh (show W5.cell? ⟨X,11,none⟩=some (.slice (some ⟨fb,fo,none⟩) nD s.dc)∧W5.rangeAt fb (fo+i*6) [sv d.rn,int i64 nr,sv d.pn,int i64 np,int i64 d.bar,.bool d.mirror] from ⟨(World.cell?_of_block (o5 X (by have:=hP.out.1;omega))).trans hJ.out.1,λu v hv=>Ad b5 (hm.out u v hv)⟩);clear e5 g5 b5 o5 HZ Ha G5 hJ;refine hK.out _ _ ho.out (λ_=>?_);clear hK K1
 try simp only [Act.put,qz]
 refine wpAnyH_done (by kernel_rfl) ?_ _;clear ho;go_wp2_with fail;obtain ⟨wd6,hZ⟩:∃wd:World,{ W5 with drawn:=W5.drawn+1 }=wd:=⟨_,rfl⟩;have hO:Below W5.heap.size W5 wd6:=by rw [← hZ];exact (Below.refl _ _).drew
 replace HB:=qh (Af HB.out hO)
 replace HX:=qh (Ah hO HX.out)
 replace hB:=qh (Ah hO hB.out)
 refine wp_region_held (S:=λV=>V.heap[X]?=some (.cells s.cells 30 (0,0))) (by kernel_rfl) ?_;have hc:=qh hZ;clear hZ hO;rw [hc.out];refine tq 0 _ (.agg s.cells) rfl (by kernel_rfl) (λ_ _ _ h=>h) (Cw rfl 30 _ rfl X rfl 30 s.cells (0,0) _ (λ_ h=>h) Tryz.underlying30 rfl (by kernel_rfl)) HX.out ?_
 try simp only [Act.put,qz]
 refine tq 1 _ (.agg s.cells) rfl (by kernel_rfl) (λ_ _ _ h=>h) (Cw rfl 30 _ rfl X rfl 30 s.cells (0,0) _ (λ_ h=>h) Tryz.underlying30 rfl (by kernel_rfl)) HX.out ?_
 try simp only [Act.put,qz]
 refine wpAnyH_ready (rs:=[2,3]) (by kernel_rfl) (by simp) ?_;refine AllReadyH.cons (o:=_) rfl (λK1 hK=>?_) (AllReadyH.cons (o:=_) rfl (λK1 hK=>?_) AllReadyH.nil);obtain ⟨A6,xA6,gA6,bA6,zA6⟩:=Ag wd6 #[sv [],int i64 0,int i64 0,int i64 0,int i64 0,int i64 0,.slice none 0 0,.slice none 0 0,.slice none 0 0,.slice none 0 0,.slice none 0 0,.slice none 0 0] 30;obtain ⟨X6,hQ⟩:∃X,wd6.heap.size=X:=⟨_,rfl⟩;rw [hQ] at gA6;clear zA6;go_simp
 (try rw [xA6])
 have hf:D<X6∧w.heap.size≤X6:=⟨by rw [← hQ];exact (qs.1 hB.out).1,by rw [← hQ];exact HB.out.size⟩
 replace HB:=qh (Af HB.out bA6)
 replace HX:=qh (Ah bA6 HX.out)
 replace hB:=qh (Ah bA6 hB.out)
 refine hK.out _ _ HX.out (λ_=>?_);clear hK K1
 try simp only [Act.put,qz]
 refine tr 3 _ (by kernel_rfl) rfl λK1 hK=>?_
 obtain ⟨A7,xA7,gA7,bA7,zA7⟩:=Ag A6 #[sv [],int i64 0,int i64 0,int i64 0,int i64 0,int i64 0,.slice none 0 0,.slice none 0 0,.slice none 0 0,.slice none 0 0,.slice none 0 0,.slice none 0 0] 30;obtain ⟨X7,he⟩:∃X,A6.heap.size=X:=⟨_,rfl⟩;rw [he] at gA7;clear zA7;go_simp
 (try rw [xA7])
 have HF:X6<X7:=by rw [← he];exact (qs.1 gA6).1
 replace HB:=qh (Af HB.out bA7)
 replace HX:=qh (Ah bA7 HX.out)
 replace hB:=qh (Ah bA7 hB.out)
 have hG:=qh (Ah bA7 gA6);have hC:=qh gA7;have hH:Hid (X<D∧D<X6∧D<X7∧X6≠X7∧w.heap.size≤D):=qh ⟨hP.out.1,by omega,by omega,by omega,hP.out.2⟩;clear xA6 gA6 bA6 xA7 gA7 bA7 hQ he hf HF;refine hK.out _ _ HX.out (λ_=>?_);clear hK K1
 try simp only [Act.put,qz]
 refine tr 4 _ (by kernel_rfl) rfl λK1 hK=>?_
 (try rw [if_pos (by kernel_rfl)])
 obtain ⟨W6,e6,g6,b6⟩:=AP (cs:=s.cells) hG.out HB.out (by have:=hH.out;omega);have o6:=λb hb=>setRow_other A7 X6 b s.cells hb
 rw [e6] at o6;refine wp_store_row 30 _ _ rfl X6 s.cells rfl rfl 30 _ hG.out (by kernel_rfl) rfl (by simp [Ls.cells,Value.oneCell']) ?_;rw [e6]
 replace HB:=qh b6
 replace hG:=qh g6
 have T1:=qh ((o6 X7 (by have:=hH.out;omega)).trans hC.out);clear hC;have hC:=T1;clear T1;have T1:=qh ((o6 X (by have:=hH.out;omega)).trans HX.out);clear HX;have HX:=T1;clear T1;have T1:=qh ((o6 D (by have:=hH.out;omega)).trans hB.out);clear hB;have hB:=T1;clear T1;clear e6 g6 b6 o6;refine hK.out _ _ HX.out (λ_=>?_);clear hK K1
 try simp only [Act.put,qz]
 refine tr 5 _ (by kernel_rfl) rfl λK1 hK=>?_
 (try rw [if_pos (by kernel_rfl)])
 obtain ⟨W7,e6,g6,b6⟩:=AP (cs:=s.cells) hC.out HB.out (by have:=hH.out;omega);have o6:=λb hb=>setRow_other W6 X7 b s.cells hb
 rw [e6] at o6;refine wp_store_row 30 _ _ rfl X7 s.cells rfl rfl 30 _ hC.out (by kernel_rfl) rfl (by simp [Ls.cells,Value.oneCell']) ?_;rw [e6]
 replace HB:=qh b6
 replace hC:=qh g6
 have T1:=qh ((o6 X6 (by have:=hH.out;omega)).trans hG.out);clear hG;have hG:=T1;clear T1;have T1:=qh ((o6 X (by have:=hH.out;omega)).trans HX.out);clear HX;have HX:=T1;clear T1;have T1:=qh ((o6 D (by have:=hH.out;omega)).trans hB.out);clear hB;have hB:=T1;clear T1;clear e6 g6 b6 o6;refine hK.out _ _ HX.out (λ_=>?_);clear hK K1
 try simp only [Act.put,qz]
 refine wpAnyH_done (by kernel_rfl) ?_ _;clear HX hP h9 hc
 rotate_left 1
 obtain ⟨A6,xA6,gA6,bA6,zA6⟩:=Ag wd6 #[sv [],int i64 0,int i64 0,int i64 0,int i64 0,int i64 0,.slice none 0 0,.slice none 0 0,.slice none 0 0,.slice none 0 0,.slice none 0 0,.slice none 0 0] 30;obtain ⟨X7,hQ⟩:∃X,wd6.heap.size=X:=⟨_,rfl⟩;rw [hQ] at gA6;clear zA6;go_simp
 (try rw [xA6])
 have hf:D<X7∧w.heap.size≤X7:=⟨by rw [← hQ];exact (qs.1 hB.out).1,by rw [← hQ];exact HB.out.size⟩
 replace HB:=qh (Af HB.out bA6)
 replace HX:=qh (Ah bA6 HX.out)
 replace hB:=qh (Ah bA6 hB.out)
 refine hK.out _ _ HX.out (λ_=>?_);clear hK K1
 try simp only [Act.put,qz]
 refine tr 2 _ (by kernel_rfl) rfl λK1 hK=>?_
 obtain ⟨A7,xA7,gA7,bA7,zA7⟩:=Ag A6 #[sv [],int i64 0,int i64 0,int i64 0,int i64 0,int i64 0,.slice none 0 0,.slice none 0 0,.slice none 0 0,.slice none 0 0,.slice none 0 0,.slice none 0 0] 30;obtain ⟨X6,he⟩:∃X,A6.heap.size=X:=⟨_,rfl⟩;rw [he] at gA7;clear zA7;go_simp
 (try rw [xA7])
 have HF:X7<X6:=by rw [← he];exact (qs.1 gA6).1
 replace HB:=qh (Af HB.out bA7)
 replace HX:=qh (Ah bA7 HX.out)
 replace hB:=qh (Ah bA7 hB.out)
 have hC:=qh (Ah bA7 gA6);have hG:=qh gA7;have hH:Hid (X<D∧D<X6∧D<X7∧X6≠X7∧w.heap.size≤D):=qh ⟨hP.out.1,by omega,by omega,by omega,hP.out.2⟩;clear xA6 gA6 bA6 xA7 gA7 bA7 hQ he hf HF;refine hK.out _ _ HX.out (λ_=>?_);clear hK K1
 try simp only [Act.put,qz]
 refine tr 4 _ (by kernel_rfl) rfl λK1 hK=>?_
 (try rw [if_pos (by kernel_rfl)])
 obtain ⟨W6,e6,g6,b6⟩:=AP (cs:=s.cells) hG.out HB.out (by have:=hH.out;omega);have o6:=λb hb=>setRow_other A7 X6 b s.cells hb
 rw [e6] at o6;refine wp_store_row 30 _ _ rfl X6 s.cells rfl rfl 30 _ hG.out (by kernel_rfl) rfl (by simp [Ls.cells,Value.oneCell']) ?_;rw [e6]
 replace HB:=qh b6
 replace hG:=qh g6
 have T1:=qh ((o6 X7 (by have:=hH.out;omega)).trans hC.out);clear hC;have hC:=T1;clear T1;have T1:=qh ((o6 X (by have:=hH.out;omega)).trans HX.out);clear HX;have HX:=T1;clear T1;have T1:=qh ((o6 D (by have:=hH.out;omega)).trans hB.out);clear hB;have hB:=T1;clear T1;clear e6 g6 b6 o6;refine hK.out _ _ HX.out (λ_=>?_);clear hK K1
 try simp only [Act.put,qz]
 refine tr 5 _ (by kernel_rfl) rfl λK1 hK=>?_
 (try rw [if_pos (by kernel_rfl)])
 obtain ⟨W7,e6,g6,b6⟩:=AP (cs:=s.cells) hC.out HB.out (by have:=hH.out;omega);have o6:=λb hb=>setRow_other W6 X7 b s.cells hb
 rw [e6] at o6;refine wp_store_row 30 _ _ rfl X7 s.cells rfl rfl 30 _ hC.out (by kernel_rfl) rfl (by simp [Ls.cells,Value.oneCell']) ?_;rw [e6]
 replace HB:=qh b6
 replace hC:=qh g6
 have T1:=qh ((o6 X6 (by have:=hH.out;omega)).trans hG.out);clear hG;have hG:=T1;clear T1;have T1:=qh ((o6 X (by have:=hH.out;omega)).trans HX.out);clear HX;have HX:=T1;clear T1;have T1:=qh ((o6 D (by have:=hH.out;omega)).trans hB.out);clear hB;have hB:=T1;clear T1;clear e6 g6 b6 o6;refine hK.out _ _ HX.out (λ_=>?_);clear hK K1
 try simp only [Act.put,qz]
 refine wpAnyH_done (by kernel_rfl) ?_ _;clear HX hP h9 hc
 all_goals
  have st10:True:=trivial
  go_wp2_with (first
   | (have q:=st10;clear q;refine wpList_load_row rfl 64 _ rfl D rfl 64 #[sv d.rn,int i64 nr,sv d.pn,int i64 np,int i64 d.bar,.bool d.mirror] (0,0) _ hB.out Tryz.underlying64 rfl (by kernel_rfl) ?_;simp only [Act.put,qD,qE,qF];obtain ⟨A8,xA8,gA8,bA8,zA8⟩:=Ag W7 #[sv d.rn,int i64 nr,sv d.pn,int i64 np,int i64 d.bar,.bool d.mirror] 64;obtain ⟨G,h3⟩:∃X,W7.heap.size=X:=⟨_,rfl⟩;rw [h3] at gA8;have HG:X6<G∧X7<G∧D<G:=⟨by rw [← h3];exact (qs.1 hG.out).1,by rw [← h3];exact (qs.1 hC.out).1,by rw [← h3];exact (qs.1 hB.out).1⟩;obtain ⟨W8,eW8,gW8,oW8,bW8,cW8,fW8⟩:=CG (i:=11) (v:=.slice (some ⟨G,0,none⟩) 1 1) (cs':=(s.only (some ⟨G,0,none⟩) 1 d).cells) (Ah bA8 hG.out) rfl rfl;have hp:Below w.heap.size w W8:=(Af HB.out bA8).trans (bW8 _ (by have:=hH.out;omega));clear HB;have HB:=qh hp;have T1:=qh ((oW8 D (by have:=hH.out;omega)).trans (Ah bA8 hB.out));clear hB;have hB:=T1;clear T1;have T1:=qh ((oW8 X7 (by have:=hH.out;omega)).trans (Ah bA8 hC.out));clear hC;have hC:=T1;clear T1;skip;replace hG:=qh gW8;have Hb:=qh ((oW8 G (by omega)).trans gA8);clear gA8 bA8 zA8 gW8 oW8 bW8 HG hp;clear st10;have st11:True:=trivial)
   | (have q:=st11;clear q;refine wpList_load_row rfl 30 _ rfl X6 rfl 30 (s.only (some ⟨G,0,none⟩) 1 d).cells (0,0) _ hG.out Tryz.underlying30 rfl (by kernel_rfl) ?_;simp only [Act.put,qD,qE,qF];clear st11;have st12:True:=trivial))
  have hI:Value.agg (s.only (some ⟨G,0,none⟩) 1 d).cells=(s.only (some ⟨G,0,none⟩) 1 d).val:=rfl;rw [hI];clear hI;go_at_call 11;have hr:W8.rangeAt G 0 (VX d nr np):=λu v hv=>by rw [Nat.zero_add];exact Aa Hb.out u (by simpa [VX,Dan.up] using hv)
  obtain ⟨hs,ht⟩:=Wc (c:=1) HA.out HY.out HB.out hr;refine (We (s.only (some ⟨G,0,none⟩) 1 d) (k1++[nr,np]) W8 hs ht (HE.out W8 HB.out).1).mono ?_;clear hr hs ht;rintro e V9 ⟨hb,hL⟩
  replace HB:=qh (Af HB.out hb);replace hB:=qh (Ah hb hB.out);replace hG:=qh (Ah hb hG.out);replace hC:=qh (Ah hb hC.out);clear hb
  rcases hL with ⟨k,hk,_,rfl⟩|⟨HH,Hc,hf,ra,a0,a1,a2,a3,rc,c0,c1,c2,c3,rfl,hF⟩
  ·have h8:(k==0)=false:=by simpa using hk
   unfold wkZ;obtain ⟨A9,xA9,gA9,bA9,zA9⟩:=Ag V9 #[int i64 0,int i64 0,int i64 0,int i64 0,int i64 0,.slice none 0 0,int i64 0,.slice none 0 0,.slice none 0 0,.slice none 0 0,.slice none 0 0] 39;have G9:=qh gA9;have B9:=qh bA9;clear gA9 bA9 zA9;have st60:True:=trivial
   go_wp2_with (first
    | (have q:=st60;clear q;refine wpList_store_row rfl 39 _ _ rfl V9.heap.size #[int i64 0,int i64 0,int i64 0,int i64 0,int i64 0,.slice none 0 0,int i64 0,.slice none 0 0,.slice none 0 0,.slice none 0 0,.slice none 0 0] rfl rfl 39 _ G9.out (by kernel_rfl) rfl (by simp [Value.oneCell']) ?_;obtain ⟨W9,hW,gW,bW⟩:=AP (cs:=#[int i64 0,int i64 0,int i64 0,int i64 0,int i64 0,.slice none 0 0,int i64 0,.slice none 0 0,.slice none 0 0,.slice none 0 0,.slice none 0 0]) G9.out B9.out (qn _);rw [hW];have HI:=qh (Af HB.out bW);clear G9 B9 hW gW bW;clear st60;have st61:True:=trivial))
   go_ret;exact ⟨rfl,by have hq:=HI.out;first|exact hq|(rw [hh.out] at hq;exact hq)⟩
  obtain ⟨nS,h4⟩:∃n,(DP (s.only (some ⟨G,0,none⟩) 1 d)).length=n:=⟨_,rfl⟩;rw [h4] at hF ⊢;have hu:nS≤maxLen:=by obtain ⟨g,o,_,h,_⟩:=hF.parts;rwa [h4] at h
  unfold maxLen at hu;have h5:=qh h4;have HJ:=qh HH;have Ho:=qh Hc;have Hp:=qh hf;unfold wkC;simp only [Ls.only];obtain ⟨A10,xA10,gA10,bA10,zA10⟩:=Ag V9 #[int i64 s.wd,int i64 s.dp,int i64 (mkA s.t0 s.t1),int i64 (mkB s.t0 s.t1),int i64 (mkC s.t0 s.t1),.slice ra s.roles.length rc,int i64 s.bars,.slice a0 s.tempos.length c0,.slice a1 s.pauses.length c1,.slice a2 s.spans.length c2,.slice a3 nS c3] 39;obtain ⟨X8,HK⟩:∃X,V9.heap.size=X:=⟨_,rfl⟩;rw [HK] at gA10;have Hq:=Wj HH;have Hy:IntKind.i64.wrap (d.bar+1)=d.bar+1:=IntWalk.i64_in _ (by omega);have Hr:D<X8:=by rw [← HK];exact (qs.1 hB.out).1
  have HL:X7<X8:=by rw [← HK];exact (qs.1 hC.out).1
  obtain ⟨W11,eW11,gW11,oW11,bW11,cW11,fW11⟩:=CG (i:=4) (v:=int i64 (d.bar+1)) (cs':=#[sv d.rn,int i64 nr,sv d.pn,int i64 np,int i64 (d.bar+1),.bool d.mirror]) (Ah bA10 hB.out) rfl rfl;have Hd:Below w.heap.size w W11:=(Af HB.out bA10).trans (bW11 _ hH.out.2.2.2.2);have hU:IsRow Ay 14 W11 (.slice a3 nS c3) (DP (s.only (some ⟨G,0,none⟩) 1 d)):=Wd (hF.below bA10 (qn _)) (Ah bA10 hB.out) (show 6<14 by decide) oW11 (Nat.le_of_eq (by rw [← eW11];simp));have T1:=qh ((oW11 X6 (by have:=hH.out;omega)).trans (Ah bA10 hG.out));clear hG;have hG:=T1;clear T1;have T1:=qh ((oW11 X7 (by have:=hH.out;omega)).trans (Ah bA10 hC.out));clear hC;have hC:=T1;clear T1;clear HB;have HB:=qh Hd;skip;have hg:=qh ((oW11 X8 (by omega)).trans gA10);have y4:A10.cell? ⟨D,4,none⟩=some (int i64 d.bar):=Aa (Ah bA10 hB.out) 4 rfl
  replace hB:=qh gW11
  have hD:=qh hU;have hw:Hid (X8≠X7):=qh (by omega);clear gA10 bA10 zA10 gW11 oW11 bW11 Hd hF hU h4 HH Hc hf Hr HL;have st20:True:=trivial
  go_wp2_with (first
   | (have q:=st20;clear q;refine wpList_load_row rfl 64 _ rfl D rfl 64 #[sv d.rn,int i64 nr,sv d.pn,int i64 np,int i64 (d.bar+1),.bool d.mirror] (0,0) _ hB.out Tryz.underlying64 rfl (by kernel_rfl) ?_;simp only [Act.put,qD,qE,qF];obtain ⟨A12,xA12,gA12,bA12,zA12⟩:=Ag W11 #[sv d.rn,int i64 nr,sv d.pn,int i64 np,int i64 (d.bar+1),.bool d.mirror] 64;obtain ⟨G2,hR⟩:∃X,W11.heap.size=X:=⟨_,rfl⟩;rw [hR] at gA12;have HG:X6<G2∧X7<G2∧D<G2:=⟨by rw [← hR];exact (qs.1 hG.out).1,by rw [← hR];exact (qs.1 hC.out).1,by rw [← hR];exact (qs.1 hB.out).1⟩;obtain ⟨W13,eW13,gW13,oW13,bW13,cW13,fW13⟩:=CG (i:=11) (v:=.slice (some ⟨G2,0,none⟩) 1 1) (cs':=(s.only (some ⟨G2,0,none⟩) 1 d.up).cells) (Ah bA12 hC.out) rfl rfl;have hp:Below w.heap.size w W13:=(Af HB.out bA12).trans (bW13 _ (by have:=hH.out;omega));clear HB;have HB:=qh hp;have T1:=qh ((oW13 D (by have:=hH.out;omega)).trans (Ah bA12 hB.out));clear hB;have hB:=T1;clear T1;have T1:=qh ((oW13 X6 (by have:=hH.out;omega)).trans (Ah bA12 hG.out));clear hG;have hG:=T1;clear T1;have T1:=qh (Wd (hD.out.below bA12 (qn _)) (Ah bA12 hC.out) (show 12<14 by decide) oW13 (Nat.le_of_eq (by rw [← eW13];simp)));clear hD;have hD:=T1;clear T1;replace hg:=qh ((oW13 X8 hw.out).trans (Ah bA12 hg.out));replace hC:=qh gW13;have hy:=qh ((oW13 G2 (by omega)).trans gA12);clear gA12 bA12 zA12 gW13 oW13 bW13 HG hp;clear st20;have st21:True:=trivial)
   | (have q:=st21;clear q;refine wpList_load_row rfl 30 _ rfl X7 rfl 30 (s.only (some ⟨G2,0,none⟩) 1 d.up).cells (0,0) _ hC.out Tryz.underlying30 rfl (by kernel_rfl) ?_;simp only [Act.put,qD,qE,qF];clear st21;have st22:True:=trivial))
  have hI:Value.agg (s.only (some ⟨G2,0,none⟩) 1 d.up).cells=(s.only (some ⟨G2,0,none⟩) 1 d.up).val:=rfl;rw [hI];clear hI;go_at_call 11;have hr:W13.rangeAt G2 0 (VX d.up nr np):=λu v hv=>by rw [Nat.zero_add];exact Aa hy.out u (by simpa [VX,Dan.up] using hv)
  obtain ⟨hs,ht⟩:=Wc (c:=1) (d:=d.up) HA.out HY.out HB.out hr;refine (We (s.only (some ⟨G2,0,none⟩) 1 d.up) (k1++[nr,np]) W13 hs ht (HE.out W13 HB.out).1).mono ?_;clear hr hs ht;rintro e V14 ⟨hb,hL⟩
  replace HB:=qh (Af HB.out hb);replace hg:=qh (Ah hb hg.out);replace hD:=qh (hD.out.below hb (qn _));clear hb hB hG hC Hb hy hH hw
  rcases hL with ⟨k,hk,hz,rfl⟩|⟨He,_,_,rb,b0,b1,b2,b3,rd,d0,d1,d2,d3,rfl,hF⟩
  ·have h0:k=180:=by
    rcases hz with ⟨h,h2⟩|h|h
    ·exact h2.trans ((Wh HJ.out _ _).resolve_left h)
    ·exact absurd h Ho.out
    ·rw [VZ s (some ⟨G,0,none⟩) (some ⟨G2,0,none⟩) 1 1 d] at h
     exact absurd Hp.out (by omega)
   subst h0;unfold wkZ;obtain ⟨A14,xA14,gA14,bA14,zA14⟩:=Ag V14 #[int i64 0,int i64 0,int i64 0,int i64 0,int i64 0,.slice none 0 0,int i64 0,.slice none 0 0,.slice none 0 0,.slice none 0 0,.slice none 0 0] 39;have G9:=qh gA14;have B9:=qh bA14;clear gA14 bA14 zA14 hz;have st60:True:=trivial
   go_wp2_with (first
    | (have q:=st60;clear q;refine wpList_store_row rfl 39 _ _ rfl V14.heap.size #[int i64 0,int i64 0,int i64 0,int i64 0,int i64 0,.slice none 0 0,int i64 0,.slice none 0 0,.slice none 0 0,.slice none 0 0,.slice none 0 0] rfl rfl 39 _ G9.out (by kernel_rfl) rfl (by simp [Value.oneCell']) ?_;obtain ⟨W9,hW,gW,bW⟩:=AP (cs:=#[int i64 0,int i64 0,int i64 0,int i64 0,int i64 0,.slice none 0 0,int i64 0,.slice none 0 0,.slice none 0 0,.slice none 0 0,.slice none 0 0]) G9.out B9.out (qn _);rw [hW];have HI:=qh (Af HB.out bW);clear G9 B9 hW gW bW;clear st60;have st61:True:=trivial))
   go_ret;exact ⟨rfl,by have hq:=HI.out;first|exact hq|(rw [hh.out] at hq;exact hq)⟩
  have HM:=Wg HJ.out He;have hY:(DP (s.only (some ⟨G2,0,none⟩) 1 d.up)).length=nS:=by rw [HM,List.length_map,h5.out]
  rw [hY] at hF ⊢;rw [HM] at hF;unfold wkC;simp only [Ls.only];obtain ⟨l,hl⟩:∃l,DP (s.only (some ⟨G,0,none⟩) 1 d)=l:=⟨_,rfl⟩;have hM:=VT HJ.out;rw [hl] at hF hM
  replace hD:=qh (show IsRow Ay 14 V14 (.slice a3 nS c3) l from hl▸hD.out)
  replace h5:=qh (show l.length=nS from hl▸h5.out)
  obtain ⟨A15,xA15,gA15,bA15,zA15⟩:=Ag V14 #[int i64 s.wd,int i64 s.dp,int i64 (mkA s.t0 s.t1),int i64 (mkB s.t0 s.t1),int i64 (mkC s.t0 s.t1),.slice rb s.roles.length rd,int i64 s.bars,.slice b0 s.tempos.length d0,.slice b1 s.pauses.length d1,.slice b2 s.spans.length d2,.slice b3 nS d3] 39;obtain ⟨X10,HO⟩:∃X,V14.heap.size=X:=⟨_,rfl⟩;rw [HO] at gA15;have y8:A15.cell? ⟨X8,10,none⟩=some (.slice a3 nS c3):=Aa (Ah bA15 hg.out) 10 rfl;have y10:A15.cell? ⟨X10,10,none⟩=some (.slice b3 nS d3):=Aa gA15 10 rfl;have HP:=qh y10;have HQ:=qh (hD.out.below bA15 (qn _));have HR:=qh (hF.below bA15 (qn _));have Hs:=qh hM
  replace HB:=qh (Af HB.out bA15)
  clear gA15 bA15 zA15 hF HM hY hl hM He hD hg;go_wp2_with fail;go_loopw [73] (λiv wr=>∃i:Nat,iv=int i64 i∧i≤nS∧Hid (Below A15.heap.size A15 wr)) (λiv _=>nS+1-(intOf iv).toNat)
  case atStart=>exact ⟨0,rfl,Nat.zero_le _,qh (Below.refl _ _)⟩
  case round =>
   obtain ⟨j,rfl,Hz,hW⟩:=hrel;by_cases hj:j<nS
   ·have Ht:((j:Nat):Int)<(nS:Int):=by omega
    obtain ⟨x,hx⟩:∃x,l[j]?=some x:=⟨_,qg (by rw [h5.out];exact hj)⟩;have HS:(l.map Sgn.up)[j]?=some x.up:=by rw [List.getElem?_map,hx];rfl
    have Hf:=Hs.out x (List.mem_of_getElem? hx);obtain ⟨g,o,ha,hA,_⟩:=(HQ.out.below hW.out (qn _)).block hx;obtain ⟨g2,o2,Hg,Hh,_⟩:=(HR.out.below hW.out (qn _)).block HS;have z10:=Ad hW.out HP.out
    cases x with
    | mk s0 s1 s2 s3 s4 s5 s6 s7 s8 s9 s10 s11 s12 s13 =>
    have Hu:Hid (wr.rangeAt g (o+j*14) [int i64 s0,int i64 s1,int i64 s2,int i64 s3,int i64 s4,int i64 s5,int i64 s6,int i64 s7,int i64 s8,int i64 s9,int i64 s10,int i64 s11,int i64 s12,int i64 s13]):=qh (λu v hv=>hA j _ hx u v hv);have Hi:wr.rangeAt g2 (o2+j*14) [int i64 s0,int i64 s1,int i64 (s2+1),int i64 s3,int i64 s4,int i64 s5,int i64 s6,int i64 s7,int i64 s8,int i64 s9,int i64 s10,int i64 s11,int i64 s12,int i64 s13]:=λu v hv=>Hh j _ HS u v hv
    obtain ⟨A16,xA16,gA16,bA16,zA16⟩:=Ag wr #[int i64 s0,int i64 s1,int i64 s2,int i64 s3,int i64 s4,int i64 s5,int i64 s6,int i64 s7,int i64 s8,int i64 s9,int i64 s10,int i64 s11,int i64 s12,int i64 s13] 54;obtain ⟨XB,Hj⟩:∃X,wr.heap.size=X:=⟨_,rfl⟩;rw [Hj] at gA16;have H0:IntKind.i64.wrap (s2+1)=s2+1:=IntWalk.i64_in _ (by simp only at Hf;omega);have c2:A16.cell? ⟨XB,2,none⟩=some (int i64 s2):=Aa gA16 2 rfl;obtain ⟨W17,eW17,gW17,oW17,bW17,cW17,fW17⟩:=CG (i:=2) (v:=int i64 (s2+1)) (cs':=#[int i64 s0,int i64 s1,int i64 (s2+1),int i64 s3,int i64 s4,int i64 s5,int i64 s6,int i64 s7,int i64 s8,int i64 s9,int i64 s10,int i64 s11,int i64 s12,int i64 s13]) gA16 rfl rfl;have hT:Below wr.heap.size wr W17:=bA16.trans (bW17 _ (Nat.le_of_eq Hj));have Hv:=qh (λu v hv=>Ad hT (Hi u v hv):W17.rangeAt g2 (o2+j*14) [int i64 s0,int i64 s1,int i64 (s2+1),int i64 s3,int i64 s4,int i64 s5,int i64 s6,int i64 s7,int i64 s8,int i64 s9,int i64 s10,int i64 s11,int i64 s12,int i64 s13]);have v10:W17.cell? ⟨X10,10,none⟩=some (.slice (some ⟨g2,o2,none⟩) nS d3):=by rw [← Hg];exact Ad hT z10
    have HT:=qh hT;have HU:=qh gW17;subst ha;clear gA16 bA16 zA16 gW17 oW17 bW17 hT hA Hh Hi hx HS Hf z10 Hg;have st30:True:=trivial
    go_wp2_with (first
     | (have q:=st30;clear q;refine wpList_load_mid rfl 54 _ rfl g (o+j*14) rfl [int i64 s0,int i64 s1,int i64 s2,int i64 s3,int i64 s4,int i64 s5,int i64 s6,int i64 s7,int i64 s8,int i64 s9,int i64 s10,int i64 s11,int i64 s12,int i64 s13] _ Hu.out Tryz.underlying54 rfl (by kernel_rfl) ?_;simp only [Act.put,qD,qE,qF];clear st30;have st31:True:=trivial))
    refine AJ (λw2=>w2=W17.drew) 6 (by kernel_rfl) (by kernel_rfl) rfl ?_;intro w2 hS;subst hS;have d10:W17.drew.cell? ⟨X10,10,none⟩=some (.slice (some ⟨g2,o2,none⟩) nS d3):=v10;simp only [List.take_succ_cons,List.take_zero,List.drop_succ_cons,List.drop_zero]
    iterate 4 still_step
    refine AF (by kernel_rfl) 54 _ rfl g2 (o2+j*14) rfl [int i64 s0,int i64 s1,int i64 (s2+1),int i64 s3,int i64 s4,int i64 s5,int i64 s6,int i64 s7,int i64 s8,int i64 s9,int i64 s10,int i64 s11,int i64 s12,int i64 s13] _ Hv.out Tryz.underlying54 rfl (by kernel_rfl) ?_
    try simp only [Act.put,qz]
    refine AF (by kernel_rfl) 54 _ rfl XB 0 rfl [int i64 s0,int i64 s1,int i64 (s2+1),int i64 s3,int i64 s4,int i64 s5,int i64 s6,int i64 s7,int i64 s8,int i64 s9,int i64 s10,int i64 s11,int i64 s12,int i64 s13] _ (λu v hv=>by rw [Nat.zero_add];exact Aa HU.out u (by simpa using hv)) Tryz.underlying54 rfl (by kernel_rfl) ?_
    try simp only [Act.put,qz]
    refine wpStill_nil ?_;refine EQ (by kernel_rfl) (.bool false) (by rw [M0 _ _ _ _ _ rfl (⟨s0,s1,s2+1,s3,s4,s5,s6,s7,s8,s9,s10,s11,s12,s13⟩:Sgn) (⟨s0,s1,s2+1,s3,s4,s5,s6,s7,s8,s9,s10,s11,s12,s13⟩:Sgn) rfl rfl _];simp) ?_
    try simp only [Act.put,qz]
    go_wp2_with fail;go_roundw
    case rel=>exact ⟨j+1,by go_num,by omega,qh (Af hW.out (HT.out.trans (Aj (Below.refl _ _) 1)))⟩
    case measure=>first|omega|(simp [intOf];omega)
   ·obtain rfl:j=nS:=by omega
    have Ht:¬((j:Nat):Int)<(j:Int):=by omega
    go_wp2_with fail;go_ret;exact ⟨rfl,by have hq:=(Af HB.out hW.out);first|exact hq|(rw [hh.out] at hq;exact hq)⟩
end
end Go.Proofs.YtbkemlgfdklpfaaGreatDoor
