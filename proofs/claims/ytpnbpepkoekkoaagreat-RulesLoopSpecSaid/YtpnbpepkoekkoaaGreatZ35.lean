/- Contracts and plain laws on the way to the statement: part 35. -/
import Derived.Test.YtpnbpepkoekkoaaGreatZ34
import Derived.OrdersHeld
import Derived.Deep.RegionHeld
import Derived.Test.YtpnbpepkoekkoaaGreatZ3
set_option autoImplicit true
set_option relaxedAutoImplicit true
set_option linter.unusedVariables false
set_option linter.unusedSimpArgs false
set_option maxRecDepth 100000
set_option maxHeartbeats 16000000
namespace Go.Proofs.YtpnbpepkoekkoaaGreat
open Go.Value (int)
open Go.IntKind (i64)
section
open Go Go.RowKit
def AA(s:Sc)(nm:Nm):Int:=(s.pnames.idxOf nm:Nat)
theorem E2{s:Sc}{ns:List Int}(h:BV s ns=0):s.lims=true∧s.named=true∧s.apart=true∧s.kinds=true∧Ax s.rnames s.pnames s.refs ns=some ns:=by
 unfold BV at h
 split at h
 ·rename_i h0
  obtain ⟨h1,h2,h3,_⟩:=Qd h0
  split at h
  ·rename_i hi
   unfold Sc.idx at hi
   split at hi
   ·rename_i hk
    exact ⟨h1,h2,h3,hk,hi⟩
   ·cases hi
  ·omega
 ·contradiction
theorem MD{R P:List Nm}{W:World}:∀{xs:List RefL} {ns:List Int},NsAt W xs ns→Ax R P (xs.map RefL.key) ns=some ns→∀x∈xs,∃n,W.cell? ⟨x.b,x.o+1,none⟩=some (int i64 n)∧(x.to=2→x.nm∈P∧n=(P.idxOf x.nm:Nat))
 | [],_,_,_,x,hx=>by cases hx
 | y::ys,[],h,_,_,_=>h.elim
 | y::ys,n::ns,⟨h1,h2⟩,hi,x,hx=>by
  simp only [List.map_cons,Ax] at hi
  cases hr:BJ R P y.key n with
  | none=>rw [hr] at hi;cases hi
  | some k =>
   cases hA:Ax R P (ys.map RefL.key) ns with
   | none=>rw [hr,hA] at hi;cases hi
   | some ks =>
    rw [hr,hA] at hi;simp only [Option.some.injEq,List.cons.injEq] at hi;obtain ⟨rfl,rfl⟩:=hi;rcases List.mem_cons.1 hx with rfl|hx
    ·refine ⟨k,h1,λht=>?_⟩
     unfold BJ RefL.key at hr;simp only [ht] at hr;rw [if_neg (by decide),if_neg (by decide)] at hr
     split at hr
     ·rename_i hm
      cases hr;exact ⟨hm,rfl⟩
     ·cases hr
    ·exact MD h2 hA x hx
theorem JN{R P:List Nm}:∀{rs:List (Nat×Nm)} {ns ks:List Int},Ax R P rs ns=some ks→∀nm,(2,nm)∈rs→nm∈P
 | [],_,_,_,_,h=>by cases h
 | r::rs,[],_,h,_,_=>by cases h
 | r::rs,n::ns,ks,h,nm,hm=>by
  simp only [Ax] at h
  cases hr:BJ R P r n with
  | none=>rw [hr] at h;cases h
  | some k =>
   cases hA:Ax R P rs ns with
   | none=>rw [hr,hA] at h;cases h
   | some ks' =>
    rcases List.mem_cons.1 hm with rfl|hm
    ·unfold BJ at hr
     rw [if_neg (by simp),if_neg (by simp)] at hr
     split at hr
     ·assumption
     ·cases hr
    ·exact JN hA nm hm
theorem JR{s:Ls}{ns:List Int}{W:World}(h:BV s.strip ns=0)(hN:NsAt W s.refs ns):NumAt (AA s.strip) W s.refs:=λx hx=>by
 obtain ⟨_,_,_,_,hi⟩:=E2 h;rw [← s.refs_key] at hi;obtain ⟨n,h1,h2⟩:=MD hN hi x hx;exact ⟨n,h1,λht=>(h2 ht).2⟩
theorem Iu(f:Nm→Int):∀(t:Its) (u:Int),u∈t.uses f→∃nm,(2,nm)∈t.refs∧u=f nm
 | .nil,_,h=>by cases h
 | .cons k _ un its ms r,u,h=>by
  simp only [Its.uses,List.mem_append] at h;rcases h with h|h|h
  ·split at h
   ·rename_i hk
    simp at h;exact ⟨un,by simp [Its.refs,BE,hk],h⟩
   ·cases h
  ·obtain ⟨nm,h1,h2⟩:=Iu f its u h
   exact ⟨nm,by simp [Its.refs,h1],h2⟩
  ·obtain ⟨nm,h1,h2⟩:=Iu f r u h
   exact ⟨nm,by simp [Its.refs,h1],h2⟩
theorem MJ{s:Sc}{nm:Nm}(h:nm∈s.pnames):∃i:Nat,AA s nm=i∧i<s.phrases.length:=by
 refine ⟨s.pnames.idxOf nm,rfl,?_⟩;have:=List.idxOf_lt_length_iff.2 h;simpa [Sc.pnames] using this
theorem FE{s:Ls}{ns:List Int}(h:BV s.strip ns=0):FI s.itsL (AA s.strip):=λt ht u hu=>by
 obtain ⟨_,_,_,_,hi⟩:=E2 h;obtain ⟨nm,h1,rfl⟩:=Iu _ t u hu;obtain ⟨p,hp,rfl⟩:=List.mem_map.1 ht
 have hm:(2,nm)∈s.strip.refs:=by
  unfold Sc.refs;exact List.mem_append.2 (Or.inl (List.mem_flatMap.2 ⟨p.strip,List.mem_map.2 ⟨p,hp,rfl⟩,h1⟩))
 obtain ⟨i,h2,h3⟩:=MJ (JN hi nm hm);exact ⟨i,h2,by simpa [Ls.itsL,Ls.strip] using h3⟩
theorem FM{s:Ls}{ns:List Int}(h:BV s.strip ns=0){d:Dan}(hd:d∈s.dances):∃i:Nat,AA s.strip d.pn=i∧i<s.phrases.length:=by
 obtain ⟨_,_,_,_,hi⟩:=E2 h
 have hm:(2,d.pn)∈s.strip.refs:=by
  unfold Sc.refs;exact List.mem_append.2 (Or.inr (List.mem_flatMap.2 ⟨d,hd,by simp⟩))
 obtain ⟨i,h2,h3⟩:=MJ (JN hi d.pn hm);exact ⟨i,h2,by simpa [Ls.strip] using h3⟩
theorem C9{s:Ls}{ns:List Int}(h:BV s.strip ns=0):s.roles.length≤64∧s.phrases.length≤64∧s.dances.length≤256:=by
 obtain ⟨hl,_⟩:=E2 h;unfold Sc.lims Sc.fit at hl;simp only [Bool.and_eq_true,decide_eq_true_eq] at hl;obtain ⟨⟨h1,_,_,_,h5,h6⟩,_⟩:=hl;simp only [Ls.strip,List.length_map] at h1 h5 h6;exact ⟨h1,h5,h6⟩
def G2(s:Ls)(f:Nm→Int):Bool:=(inB s.wd 1 1000&&inB s.dp 1 1000)&&((inB s.t0 1 127&&inB s.t1 0 s.t0)&&(s.roles.all (BK s)&&(decide (CW ⟨s.bars,s.tempos,s.pauses,s.spans⟩=0)&&(s.phrases.all (λp=>p.its.strip.exB)&&(decide (Bq (s.nexts f)=[])&&s.dances.all (Ch s f (BF s.itsL f)))))))
def AE(s:Ls)(ns:List Int):Int:=if BV s.strip ns=0 then (if G2 s (AA s.strip) then 0 else 180) else BV s.strip ns
def Eo(s:Ls)(ns:List Int)(w:World)(e:Ending)(w':World):Prop:=e=.returned (int i64 (AE s ns))∧Below w.heap.size w w'
theorem Kr{b:Int}{t:List Tmp}{p:List Pau}{c:List Con}(h:CW ⟨b,t,p,c⟩=0):1≤b∧b≤4096:=by
 unfold CW at h
 split at h
 ·split at h
  ·rename_i hb
   unfold E4 BP at hb;simp only [Bool.and_eq_true] at hb;exact AR.1 hb.1.1.1.1.1
  ·omega
 ·omega
end
section
open Go Go.RowKit Go.Deep
def Oh(R n:Nat)(l:List Bool)(us:List Int)(W:World)(e:Ending)(W':World):Prop:=e=.returned (.slice (some ⟨R,0,none⟩) n n)∧BB W' R (Bv l us)∧ButOne R W W'
def UsB(us:List Int)(n:Nat):Prop:=∀u∈us,∃i:Nat,u=i∧i<n
structure MkW(V0 W0:World)(R n:Nat)(l:List Bool)(W:World):Prop where
 but:ButOne R W0 W
 row:BB W R l
 len:l.length=n
 below:Below V0.heap.size V0 W
 low:V0.heap.size≤R
theorem MkW.step{V0 W0 W:World}{R n:Nat}{l:List Bool}(h:MkW V0 W0 R n l W)(k:Nat):MkW V0 W0 R n (l.set k true) (W.setCell ⟨R,k,none⟩ (.bool true)) :=
 ⟨h.but.trans (ButOne.setCell (p:=⟨R,k,none⟩) _),h.row.set k true,by rw [List.length_set];exact h.len,h.below.trans ((ButOne.setCell (W:=W) (p:=⟨R,k,none⟩) (.bool true)).below h.low h.below.size),h.low⟩
theorem MkW.call{V0 W0 W W':World}{R n:Nat}{l:List Bool}{us:List Int}(h:MkW V0 W0 R n l W)(hb:BB W' R (Bv l us))(hg:ButOne R W W'):MkW V0 W0 R n (Bv l us) W' :=
 ⟨h.but.trans hg,hb,by rw [Jh];exact h.len,h.below.trans (hg.below h.low h.below.size),h.low⟩
theorem Gd(f:Nm→Int)(V0:World)(R n:Nat)(hR:V0.heap.size≤R)(hn:n≤maxLen)(T:Lt)
  (hI:∀T':Lt,T'.size<T.size→∀(ia:Option Addr) (ic:Nat) (l:List Bool) (W:World),(T'.len=0∨ia=some ⟨blk ia,off ia,none⟩)→T'.len≤maxLen→T'.At V0 (blk ia) (off ia)→NumAt f V0 (T'.refsL (blk ia) (off ia))→UsB (T'.strip.uses f) n→Below V0.heap.size V0 W→BB W R l→l.length=n→Calls Tryz.prog 54 #[.slice ia T'.len ic,.slice (some ⟨R,0,none⟩) n n] W (Oh R n l (T'.strip.uses f) W))
  (ia:Option Addr) (ic:Nat) (l:List Bool) (W:World) (hf:T.len=0∨ia=some ⟨blk ia,off ia,none⟩) (hl:T.len≤maxLen) (hT:T.At V0 (blk ia) (off ia)) (hU:NumAt f V0 (T.refsL (blk ia) (off ia))) (hu:UsB (T.strip.uses f) n) (hb:Below V0.heap.size V0 W) (hB:BB W R l) (hC:l.length=n):Calls Tryz.prog 54 #[.slice ia T.len ic,.slice (some ⟨R,0,none⟩) n n] W (Oh R n l (T.strip.uses f) W):=by
 have HI:=qh hI;have HT:=qh hT;have HF:=qh hf;have HU:=qh hU;have hg:=qh hu;have H0:=qh (MkW.mk (ButOne.refl R W) hB hC hb hR);have hh:=qh hR;clear hI hT hf hU hu hb hB hC hR;generalize hm:T.len=q at *;have HM:=qh hm;clear hm;unfold maxLen at hl hn;go_enter Tryz.func54,Tryz.ntmps54;go_wp2_with fail;go_loopw [1,5] (λov iv wr=>∃(j:Nat) (S:Lt) (l':List Bool),iv=int i64 j∧ov=.slice (some ⟨R,0,none⟩) n n∧j+S.len=q∧Hid (S.size≤T.size)∧Hid (Bv l (T.strip.uses f)=Bv l' (S.strip.uses f))∧Hid (UsB (S.strip.uses f) n)∧Hid (S.At V0 (blk ia) (off ia+j*6))∧Hid (NumAt f V0 (S.refsL (blk ia) (off ia+j*6)))∧Hid (MkW V0 W R n l' wr)) (λ_ iv _=>q+1-(intOf iv).toNat)
 case atStart=>exact ⟨0,T,l,rfl,rfl,by rw [HM.out];omega,qh (qn _),qh rfl,hg,by simpa [Hid] using HT.out,by simpa [Hid] using HU.out,H0⟩
 case round =>
  obtain ⟨j,S,l',rfl,rfl,hN,hL,hM,hD,hS,hK,hW⟩:=hrel
  cases S with
  | nil =>
   simp only [Lt.len,Nat.add_zero] at hN;subst hN;have HE:=qh (show Bv l (T.strip.uses f)=l' from hM.out);clear hM hD hS hK hL;go_wp2_with fail;go_ret;exact ⟨rfl,by rw [HE.out];exact hW.out.row,hW.out.but⟩
  | cons kk nn un ja jc its ma mc ms r =>
   simp only [Lt.len] at hN;have hi:(j:Int)<(q:Int):=by omega
   have e:=HF.out.resolve_left (by omega);obtain ⟨⟨u,g3,hu⟩,_,k2,k3⟩:=hK.out.mov;obtain ⟨⟨g0,g1,g2,g4,g5⟩,_,⟨i1,i2,i3⟩,hr⟩:=hS.out;have hY:its.size<T.size:=by have:=hL.out;simp only [Lt.size] at this;omega
   have hE:r.size≤T.size:=by have:=hL.out;simp only [Lt.size] at this;omega
   have hF:UsB (its.strip.uses f) n:=λv hv=>hD.out v (by simp [Lt.strip,Its.uses,hv])
   have hG:UsB (r.strip.uses f) n:=λv hv=>hD.out v (by simp [Lt.strip,Its.uses,hv])
   have hA:kk=4→∃i:Nat,f un=i∧i<n:=λh=>hD.out _ (by simp [Lt.strip,Its.uses,h])
   have C:=λ(V:World) (us:List Bool) (hv:MkW V0 W R n us V)=>HI.out its hY ja jc us V i1 i2 i3 k2 hF hv.below hv.row hv.len
   have hZ:=qh C
   have hx:Bv l (T.strip.uses f)=Bv (Bv (Bv l' (if kk=4 then [f un] else [])) (its.strip.uses f)) (r.strip.uses f):=by
    rw [hM.out];simp only [Lt.strip,Its.uses,Np]
   have HX:=qh hx
   have HR:Hid (r.At V0 (blk ia) (off ia+(j+1)*6)∧NumAt f V0 (r.refsL (blk ia) (off ia+(j+1)*6))):=qh (by
    rw [show off ia+(j+1)*6=off ia+j*6+6 by omega]
    exact ⟨hr,k3⟩)
   have y0:=Ac hW.out.below g0;have y3:=Ac hW.out.below g3;have y4:=Ac hW.out.below g4;have y4b:blk ia≠R:=by have:=D4 g4;have:=hh.out;simp at *;omega
   have ha:=qh hE;have hc:=qh hG;have hO:Hid (∀k:Nat,(wr.setCell ⟨R,k,none⟩ (.bool true)).cell? ⟨blk ia,off ia+j*6+4,none⟩=some (.slice ja its.len jc)):=qh (λk=>(ButOne.setCell (p:=⟨R,k,none⟩) _).cell y4 y4b);clear C hx i1 i2 i3 hr hY k2 k3 hS hK hM hL hE g0 g1 g2 g3 g4 g5 hD hF hG y4b;have hd:=qh e;by_cases h4:kk=4
   ·subst h4
    obtain ⟨k,hP,hj⟩:=hA rfl;have he:=hu rfl;have hQ:Hid (Bv l (T.strip.uses f)=Bv (Bv (l'.set k true) (its.strip.uses f)) (r.strip.uses f)):=qh (by rw [HX.out,if_pos rfl,hP];rfl);rw [hP] at he;subst he;have hk:=hW.out.row.cell (j:=k) (by rw [hW.out.len];exact hj);have ho:=hW.out.row.free k;have hp:(0:Int)≤(k:Int):=by omega
    have hq:(k:Int)<(n:Int):=by omega
    have z4:=hO.out k;have HS:=qh (hW.out.step k);clear hu hP hA HX hO;generalize hV:blk ia=bb at *;generalize hX:off ia=oo at *;subst e;clear hV hX HF hd;go_wp2_with fail;refine (hZ.out _ _ HS.out).mono ?_;rintro e V ⟨rfl,hH,hJ⟩;have HV:=qh (HS.out.call hH hJ);clear hH hJ z4 y0 y3 y4 hk ho;go_wp2_with fail;go_roundw
    case rel=>exact ⟨j+1,r,_,by go_num,rfl,by omega,ha,hQ,hc,qh HR.out.1,qh HR.out.2,HV⟩
    case measure=>simp [intOf];omega
   ·have hQ:Hid (Bv l (T.strip.uses f)=Bv (Bv l' (its.strip.uses f)) (r.strip.uses f)):=qh (by rw [HX.out,if_neg h4];rfl)
    clear hu hA HX hO;have hs:(kk==4)=false:=by simp [h4]
    generalize hV:blk ia=bb at *;generalize hX:off ia=oo at *;subst e;clear hV hX HF hd;go_wp2_with fail;refine (hZ.out _ _ hW.out).mono ?_;rintro e V ⟨rfl,hH,hJ⟩;have HV:=qh (hW.out.call hH hJ);clear hH hJ y0 y3 y4;go_wp2_with fail;go_roundw
    case rel=>exact ⟨j+1,r,_,by go_num,rfl,by omega,ha,hQ,hc,qh HR.out.1,qh HR.out.2,HV⟩
    case measure=>simp [intOf];omega
theorem LQ(f:Nm→Int)(V0:World)(R n:Nat)(hR:V0.heap.size≤R)(hn:n≤maxLen):∀(s:Nat) (T:Lt),T.size≤s→∀(ia:Option Addr) (ic:Nat) (l:List Bool) (W:World),(T.len=0∨ia=some ⟨blk ia,off ia,none⟩)→T.len≤maxLen→T.At V0 (blk ia) (off ia)→NumAt f V0 (T.refsL (blk ia) (off ia))→UsB (T.strip.uses f) n→Below V0.heap.size V0 W→BB W R l→l.length=n→Calls Tryz.prog 54 #[.slice ia T.len ic,.slice (some ⟨R,0,none⟩) n n] W (Oh R n l (T.strip.uses f) W):=by
 intro s
 induction s with
 | zero=>intro T hs;exact Gd f V0 R n hR hn T (λT' hA=>absurd hA (by omega))
 | succ s ih=>intro T hs;exact Gd f V0 R n hR hn T (λT' hA=>ih T' (by omega))
def RowsB(base:Nat)(W:World)(vs:List Value)(M:List (List Bool)):Prop:=vs.length=M.length∧∀(j:Nat) (l:List Bool),M[j]?=some l→∃R,base≤R∧vs[j]?=some (Value.slice (some ⟨R,0,none⟩) l.length l.length)∧BB W R l
structure UzW(W1:World)(M:List (List Bool))(v:Value)(W:World):Prop where
 below:Below W1.heap.size W1 W
 rows:∃vs,W.ownsRow W1.heap.size 73 1 v M.length vs∧RowsB W1.heap.size W vs M
theorem RowsB.kept{base:Nat}{W W':World}{vs:List Value}{M:List (List Bool)}(h:RowsB base W vs M)(hk:∀(R:Nat) (l:List Bool),base≤R→BB W R l→BB W' R l):RowsB base W' vs M :=
 ⟨h.1,λj l hj=>by obtain ⟨R,h1,h2,h3⟩:=h.2 j l hj;exact ⟨R,h1,h2,hk R l h1 h3⟩⟩
theorem RowsB.push{base:Nat}{W:World}{vs:List Value}{M:List (List Bool)}(h:RowsB base W vs M){R:Nat}{l:List Bool}(h1:base≤R)(h2:BB W R l):RowsB base W (vs++[.slice (some ⟨R,0,none⟩) l.length l.length]) (M++[l]):=by
 refine ⟨by rw [List.length_append,List.length_append,h.1];rfl,λj x hj=>?_⟩;by_cases hA:j<M.length
 ·rw [List.getElem?_append_left hA] at hj
  obtain ⟨R',h3,h4,h5⟩:=h.2 j x hj;exact ⟨R',h3,by rw [List.getElem?_append_left (by rw [h.1];exact hA)];exact h4,h5⟩
 ·rw [List.getElem?_append_right (by omega)] at hj
  have:j-M.length=0:=by
   have:=(ql.1 hj).1;simp at this;omega
  rw [this] at hj;cases hj;exact ⟨R,h1,by rw [List.getElem?_append_right (by rw [h.1];omega),h.1,this];rfl,h2⟩
theorem R9:(Tryz.prog.info? 73).map (λi=>(i.zero,i.size,i.bytes))=some (some (.slice none 0 0),1,24):=by kernel_rfl
def CE(s:Ls)(f:Nm→Int):List (List Bool):=s.phrases.map λp=>Bv (List.replicate s.phrases.length false) (p.its.strip.uses f)
theorem PR{s:Ls}{W:World}(h:s.At W){f:Nm→Int}(hU:NumAt f W (Aw s.phrases)){i:Nat}{p:Ph}(hp:s.phrases[i]?=some p):s.fa=some ⟨blk s.fa,off s.fa,none⟩∧W.cell? ⟨blk s.fa,off s.fa+i*2+1,none⟩=some (.slice p.ia p.its.len p.ic)∧(p.its.len=0∨p.ia=some ⟨blk p.ia,off p.ia,none⟩)∧p.its.len≤maxLen∧p.its.At W (blk p.ia) (off p.ia)∧NumAt f W (p.its.refsL (blk p.ia) (off p.ia)):=by
 obtain ⟨c0,c1⟩:=Cm h.phrases hp;obtain ⟨i1,i2,i3⟩:=Df h.phrases hp;refine ⟨h.pform.resolve_left (λe=>by rw [e] at hp;simp at hp),c1,i1,i2,i3,λx hx=>hU x ?_⟩;exact Dr hp hx
theorem UzW.next{W1 W V V2:World}{M:List (List Bool)}{v2:Value}{R:Nat}{l:List Bool}{vs:List Value}{e:Option Nat}(h2:RowsB W1.heap.size W vs M)(hb:Below W1.heap.size W1 V)(hw:∀(R:Nat) (l:List Bool),W1.heap.size≤R→BB W R l→BB V R l)(hR:W1.heap.size≤R)(hl:BB V R l)
  (hB:V2.ownsRow W1.heap.size 73 1 v2 (M.length+1) (vs++[.slice (some ⟨R,0,none⟩) l.length l.length])) (hg:V.grownBy V2 e) (hx:∀g,e=some g→W1.heap.size≤g∧∃cs,V.heap[g]?=some (.cells cs 73 (0,0))):UzW W1 (M++[l]) v2 V2:=by
 refine ⟨hb.grown hg hb.size (λk hk=>(hx k hk).1),_,by rw [List.length_append];exact hB,((h2.kept hw).push hR hl).kept (λR' l' hr hA=>?_)⟩
 have:V2.heap[R']?=V.heap[R']?:=hg.block R' hA.lt (λhk=>by
  obtain ⟨_,cs,hC⟩:=hx R' hk.symm;unfold BB at hA;rw [hC] at hA
  cases hA)
 exact this.trans hA
theorem I5{w w':World}{base e k n:Nat}{v:Value}{xs:List Value}(h:w.ownsRow base e k v n xs)(hb:Below w.heap.size w w'):w'.ownsRow base e k v n xs :=
 h.kept (row:=none) ⟨hb.os,hb.tape,hb.output,hb.size,λj hj _=>hb.block j hj⟩ (by cases v.ownBlock<;>simp)
theorem Ry{w w':World}{base n:Nat}{v:Value}{xs:List Value}(h:w.ownsRow base 73 1 v n xs)(hb:Below w.heap.size w w'):∀g,v.ownBlock=some g→base≤g∧∃cs,w'.heap[g]?=some (.cells cs 73 (0,0)):=λg hg=>by
 rcases h.2 with ⟨rfl,_⟩|⟨g',cap,cur,rfl,h1,h2,_⟩
 ·cases hg
 ·cases hg;exact ⟨h1,cur,Ah hb h2⟩
theorem FS(n:Nat)(us:List Int):(Bv (List.replicate n false) us).length=n:=by rw [Jh,List.length_replicate]
def Ue(s:Ls)(f:Nm→Int)(w:World)(e:Ending)(w':World):Prop:=∃v W1,e=.returned v∧Below w.heap.size w W1∧UzW W1 (CE s f) v w'
theorem Mo(s:Ls)(f:Nm→Int){i:Nat}{p:Ph}(hp:s.phrases[i]?=some p):(CE s f).take (i+1)=(CE s f).take i++[Bv (List.replicate s.phrases.length false) (p.its.strip.uses f)]:=by
 rw [List.take_add_one];unfold CE;rw [List.getElem?_map,hp];rfl
theorem It(s:Ls)(f:Nm→Int)(w:World)(hA:s.At w)(hU:NumAt f w (Aw s.phrases))(hn:s.phrases.length≤999)(hM:FI s.itsL f) :
  Calls Tryz.prog 32 #[s.val] w (Ue s f w):=by
 obtain ⟨W1,hX,g1,b1,s1⟩:=Ag w s.cells 30;have hN:=hA.below b1;have hO:=hU.below b1;have y9:W1.cell? ⟨w.heap.size,10,none⟩=some (.slice s.fa s.phrases.length s.fc):=Aa g1 10 rfl;have HA:=qh hN;have HU:=qh hO;have hY:=qh hM;have hZ:=qh b1;have hv:s.val=.agg s.cells:=rfl;rw [hv];unfold Ls.cells at hX ⊢;clear hA hU hN hO hM b1 s1 g1 hv;generalize hP:s.phrases.length=n at *;have HN:=qh hP;clear hP;go_enter Tryz.func32,Tryz.ntmps32;go_wp2_with fail;go_loopw [3,4] (λvv iv wr=>∃(i:Nat) (v:Value),iv=int i64 i∧v=vv∧i≤n∧Hid (UzW W1 ((CE s f).take i) v wr)) (λ_ iv _=>n+1-(intOf iv).toNat)
 case atStart=>exact ⟨0,_,rfl,rfl,Nat.zero_le _,qh ⟨Below.refl _ _,[],⟨rfl,Or.inl ⟨rfl,rfl⟩⟩,rfl,λj l h=>by simp at h⟩⟩
 case round =>
  obtain ⟨i,v,rfl,rfl,h3,hW⟩:=hrel;have z9:=Ac hW.out.below y9;by_cases ha:i<n
  ·have hi:(i:Int)<(n:Int):=by omega
   obtain ⟨p,hp⟩:∃p,s.phrases[i]?=some p:=⟨_,qg (by rw [HN.out];exact ha)⟩;have HP:=qh hp;clear hp;obtain ⟨hc,c1,i1,i2,i3,i4⟩:=PR HA.out HU.out HP.out
   have hQ:UsB (p.its.strip.uses f) n:=λu hu=>by
    have:=hY.out p.its.strip (List.mem_map.2 ⟨p,List.mem_of_getElem? HP.out,rfl⟩) u hu;obtain ⟨k,h1,h2⟩:=this;exact ⟨k,h1,by rw [← HN.out];simpa [Ls.itsL] using h2⟩
   have HC:=qh (λ(R:Nat) (hR:W1.heap.size≤R) (V:World) (hb:Below W1.heap.size W1 V) (hl:BB V R (List.replicate n false))=>LQ f W1 R n hR (by unfold maxLen;omega) p.its.size p.its (qn _) p.ia p.ic _ V i1 i2 i3 i4 hQ hb hl (by simp));have he:=qh (show (CE s f).take (i+1)=(CE s f).take i++[Bv (List.replicate n false) (p.its.strip.uses f)] by rw [← HN.out];exact Mo s f HP.out);have hS:Hid ((((CE s f).take i).length)=i):=qh (by rw [List.length_take];unfold CE;rw [List.length_map,HN.out];omega);clear i1 i2 i3 i4 hQ;generalize hE:blk s.fa=bb at *;generalize hf:off s.fa=oo at *;generalize hh:s.fa=fa at *;subst hc;clear hE hf hh;go_wp2_with fail;refine wp_region_held (S:=λV=>Below W1.heap.size W1 V) (by kernel_rfl) ?_;change wpAnyH _ _ _ _ _ _ _ _ wr.drew;have hd:Below wr.heap.size wr wr.drew:=(Below.refl _ wr).drew;generalize wr.drew=Wd at *;have hB:=hW.out.below.trans (hd.mono hW.out.below.size);have HD:=qh hd;clear hd;refine tk 0 _ v rfl (λV hb=>by go_simp) hB ?_
   try simp only [Act.put,qA,qB,qC,qD,qE,qF]
   refine tk 1 _ (.pointer (some ⟨w.heap.size,10,none⟩)) rfl (λV hb=>by go_simp) hB ?_
   try simp only [Act.put,qA,qB,qC,qD,qE,qF]
   refine tk 2 _ (.slice (some ⟨bb,oo,none⟩) n s.fc) rfl (λV hb=>by have q0:=Ac hb y9;go_simp) hB ?_
   try simp only [Act.put,qA,qB,qC,qD,qE,qF]
   refine tk 3 _ (int i64 (i:Nat)) rfl (λV hb=>by go_simp) hB ?_
   try simp only [Act.put,qA,qB,qC,qD,qE,qF]
   refine tk 4 _ (.pointer (some ⟨bb,oo+i*2,none⟩)) rfl (λV hb=>by have q0:=hi;go_simp) hB ?_
   try simp only [Act.put,qA,qB,qC,qD,qE,qF]
   refine tk 5 _ (.pointer (some ⟨bb,oo+i*2+1,none⟩)) rfl (λV hb=>by go_simp) hB ?_
   try simp only [Act.put,qA,qB,qC,qD,qE,qF]
   refine tk 6 _ (.slice p.ia p.its.len p.ic) rfl (λV hb=>by have q0:=Ac hb c1;go_simp) hB ?_
   try simp only [Act.put,qA,qB,qC,qD,qE,qF]
   refine tk 7 _ (.pointer (some ⟨w.heap.size,10,none⟩)) rfl (λV hb=>by go_simp) hB ?_
   try simp only [Act.put,qA,qB,qC,qD,qE,qF]
   refine tk 8 _ (.slice (some ⟨bb,oo,none⟩) n s.fc) rfl (λV hb=>by have q0:=Ac hb y9;go_simp) hB ?_
   try simp only [Act.put,qA,qB,qC,qD,qE,qF]
   refine tk 9 _ (int i64 (n:Nat)) rfl (λV hb=>by go_simp) hB ?_
   try simp only [Act.put,qA,qB,qC,qD,qE,qF]
   refine tr 10 _ (by kernel_rfl) rfl λK1 hK=>?_
   have hk:=LP n (by omega) Wd;go_simp;obtain ⟨W2,hC⟩:∃W2,Wd.alloc (.cells (Array.replicate n (.bool false)) 4)=W2:=⟨_,rfl⟩;have hF:BB W2 Wd.heap.size (List.replicate n false):=by rw [← hC];exact BB.new Wd n
   have hT:Below Wd.heap.size Wd W2:=by rw [← hC];exact (Below.refl _ _).alloc (qn _) _
   rw [hC];clear hC hk;have hD:=hB.trans (hT.mono hB.size);refine hK.out _ _ hD (λ_=>?_);clear hK K1
   try simp only [Act.put,qA,qB,qC,qD,qE,qF]
   refine tr 11 _ (by kernel_rfl) rfl λK1 hK=>?_
   go_simp;refine (HC.out Wd.heap.size hB.size W2 hD hF).mono ?_;rintro e V ⟨rfl,hm,hV⟩;have hG:=hD.trans (hV.below hB.size hD.size);refine hK.out _ _ hG (λ_=>?_);clear hK K1
   try simp only [Act.put,qA,qB,qC,qD,qE,qF]
   refine tr 12 _ (by kernel_rfl) rfl λK1 hK=>?_
   go_simp;obtain ⟨V3,hq,g4,b4,s4⟩:=Ag V #[.slice (some ⟨Wd.heap.size,0,none⟩) n n] 73;rw [hq];have hH:=hG.trans (b4.mono hG.size);refine hK.out _ _ hH (λ_=>?_);clear hK K1
   try simp only [Act.put,qA,qB,qC,qD,qE,qF]
   refine tr 13 _ (by kernel_rfl) rfl λK1 hK=>?_
   have hI:Below wr.heap.size wr V3:=by
    have h1:=HD.out.trans (hT.mono HD.out.size);have h2:=h1.trans (hV.below HD.out.size h1.size);exact h2.trans (b4.mono h2.size)
   obtain ⟨vs,ho,hs⟩:=hW.out.rows;obtain ⟨i0,j1,j2,j3,j4⟩:=info_parts R9;rw [if_pos (by rfl)];refine Ke _ _ 70 rfl W1.heap.size 73 i0 _ 1 24 Tryz.underlying70 j1 j2 j3 j4 rfl (by decide) v _ vs rfl (I5 ho hI) ⟨V.heap.size,0,none⟩ 1 1 [.slice (some ⟨Wd.heap.size,0,none⟩) n n] rfl rfl (λj u hj=>?_) (by simp [Value.oneCell']) (by rw [hS.out];unfold maxLen;omega) (by rw [hS.out];omega) hH.size ?_
   ·match j,hj with
    | 0,hj=>cases hj;exact Aa g4 0 rfl
    | j+1,hj=>simp at hj
   intro v2 W4 hw hx h4;have hy:BB V3 Wd.heap.size (Bv (List.replicate n false) (p.its.strip.uses f)):=Ah b4 hm
   have hJ:UzW W1 ((CE s f).take (i+1)) v2 W4:=by
    rw [he.out];refine UzW.next (V:=V3) (R:=Wd.heap.size) hs hH (λR l hr hE=>Ah hI hE) hB.size hy ?_ hx (λg hg=>Ry ho hI g hg)
    rw [FS];exact hw
   have h0:=qh hJ;have hL:=hJ.below;refine hK.out _ _ hL (λ_=>?_);clear hK K1
   try simp only [Act.put,qA,qB,qC,qD,qE,qF]
   refine tk 14 _ v2 rfl (λV hb=>by go_simp) hL ?_
   try simp only [Act.put,qA,qB,qC,qD,qE,qF]
   refine wpAnyH_done (by kernel_rfl) ?_ _;clear hL hJ;go_wp2_with fail;go_roundw
   case rel=>exact ⟨i+1,v2,by go_num,rfl,by omega,h0⟩
   case measure=>simp [intOf];omega
  ·have:i=n:=by omega
   subst this;have hz:¬(i:Int)<(i:Int):=by omega
   have ht:(CE s f).take i=CE s f:=List.take_of_length_le (by unfold CE;rw [List.length_map,HN.out];exact qn _);have HT:=qh ht;clear ht;go_wp2_with fail;go_ret;exact ⟨_,W1,rfl,hZ.out,by rw [← HT.out];exact hW.out⟩
def IsMatB(W:World)(v:Value)(n:Nat)(mt:Nat→Nat→Bool):Prop :=
 ∃ao cap,v=.slice ao n cap∧(n=0∨ao=some ⟨blk ao,0,none⟩)∧∀j,j<n→∃R,W.cell? ⟨blk ao,j,none⟩=some (.slice (some ⟨R,0,none⟩) n n)∧∀k,k<n→W.cell? ⟨R,k,none⟩=some (.bool (mt j k))
theorem IsMatB.below{W W':World}{v:Value}{n:Nat}{mt:Nat→Nat→Bool}(h:IsMatB W v n mt)(hb:Below W.heap.size W W'):IsMatB W' v n mt:=by
 obtain ⟨ao,cap,h1,h2,h3⟩:=h;refine ⟨ao,cap,h1,h2,λj hj=>?_⟩;obtain ⟨R,h4,h5⟩:=h3 j hj;exact ⟨R,Ac hb h4,λk hk=>Ac hb (h5 k hk)⟩
def inM(kss:List (List Int))(j k:Nat):Bool:=decide ((k:Int)∈kss.getD j [])
theorem UzW.mat{s:Ls}{f:Nm→Int}{W1 W:World}{v:Value}(h:UzW W1 (CE s f) v W)(hA:FI s.itsL f):IsMatB W v s.phrases.length (inM (s.nexts f)):=by
 obtain ⟨vs,h1,h2,h3⟩:=h.rows;have hl:(CE s f).length=s.phrases.length:=by unfold CE;rw [List.length_map]
 rw [hl] at h1 h2
 have hx:∃ao cap,v=.slice ao s.phrases.length cap∧(s.phrases.length=0∨ao=some ⟨blk ao,0,none⟩)∧∀j u,vs[j]?=some u→W.cell? ⟨blk ao,j,none⟩=some u:=by
  rcases h1.2 with ⟨rfl,h0⟩|⟨g,cap,cur,rfl,hg,hh,_⟩
  ·exact ⟨none,0,by rw [h0],Or.inl h0,λj u hj=>by rw [h0] at h2;rw [List.length_eq_zero_iff.1 h2] at hj;simp at hj⟩
  ·refine ⟨_,cap,rfl,Or.inr rfl,λj u hj=>?_⟩
   have:=h1.cells (g:=g) rfl j u hj;rw [AM,Nat.zero_add] at this;exact this
 obtain ⟨ao,cap,e,hf,hc⟩:=hx;refine ⟨ao,cap,e,hf,λj hj=>?_⟩;obtain ⟨p,hp⟩:∃p,s.phrases[j]?=some p:=⟨_,qg hj⟩;have hM:(CE s f)[j]?=some (Bv (List.replicate s.phrases.length false) (p.its.strip.uses f)):=by unfold CE;rw [List.getElem?_map,hp];rfl
 obtain ⟨R,h4,h5,h6⟩:=h3 j _ hM;rw [FS] at h5;refine ⟨R,hc j _ h5,λk hk=>?_⟩;rw [h6.cell (by rw [FS];exact hk),Py,T3]
 ·have hn:(s.nexts f).getD j []=(p.its.strip.uses f).foldl B9 []:=E7 hp
  unfold inM;rw [hn,Bool.false_or];have:((k:Int)∈(p.its.strip.uses f).foldl B9 [])↔(k:Int)∈p.its.strip.uses f:=by rw [E6];simp
  rw [decide_eq_decide.2 this]
 ·intro u hu
  rw [List.length_replicate];obtain ⟨i,h7,h8⟩:=hA p.its.strip (List.mem_map.2 ⟨p,List.mem_of_getElem? hp,rfl⟩) u hu;exact ⟨i,h7,by simpa [Ls.itsL] using h8⟩
structure FarL(l:List Int)(g:Int→Option Int)(n:Nat):Prop where
 len:l.length=n
 val:∀k:Nat,k<n→gi l k=(g k).getD 0
 pos:∀(k:Nat) v,k<n→g k=some v→1≤v
theorem FarL.zero{l:List Int}{g:Int→Option Int}{n:Nat}(h:FarL l g n){k:Nat}(hk:k<n):gi l k=0↔g k=none:=by
 rw [h.val k hk]
 cases e:g k with
 | none=>simp
 | some v=>have:=h.pos k v hk e;simp;omega
theorem FarL.some{l:List Int}{g:Int→Option Int}{n:Nat}(h:FarL l g n){k:Nat}(hk:k<n){v:Int}(hv:1≤v):gi l k=v↔g k=some v:=by
 rw [h.val k hk]
 cases e:g k with
 | none=>simp;omega
 | some u=>simp
theorem FarL.put{l:List Int}{g:Int→Option Int}{n:Nat}(h:FarL l g n){i:Nat}(hi:i<n){v:Int}(hv:1≤v):FarL (l.set i v) (F2 g i v) n:=by
 refine ⟨by rw [List.length_set];exact h.len,λk hk=>?_,λk u hk hu=>?_⟩
 ·rw [JM _ _ _ _ (by rw [h.len];exact hi)]
  unfold F2;by_cases e:k=i
  ·subst e;simp
  ·rw [if_neg e,if_neg (by omega)];exact h.val k hk
 ·unfold F2 at hu
  split at hu
  ·cases hu;exact hv
  ·exact h.pos k u hk hu
def IH(mt:Nat→Nat→Bool)(to nn i:Nat)(l:List Int)(k:Nat):Bool:=mt i k&&((decide (nn=1)&&decide (k=to))||(decide (1<nn)&&decide (gi l k=(nn:Int)-1)))
theorem KG{kss:List (List Int)}{to nn i:Nat}{l:List Int}{g:Int→Option Int}{n:Nat}(h:FarL l g n)(hu:∀u∈kss.getD i [],∃k:Nat,u=k∧k<n):CY (kss.getD i []) to nn g=true↔∃k,k<n∧IH (inM kss) to nn i l k=true:=by
 have hh:∀k:Nat,k<n→(DR to nn g k=true↔((decide (nn=1)&&decide (k=to))||(decide (1<nn)&&decide (gi l k=(nn:Int)-1)))=true):=by
  intro k hk;unfold DR;simp only [Bool.or_eq_true,Bool.and_eq_true,decide_eq_true_eq];have e1:((nn:Int)=1)↔nn=1:=by omega
  have e2:((k:Int)=(to:Int))↔k=to:=by omega
  have e3:((1:Int)<nn)↔1<nn:=by omega
  rw [e1,e2,e3]
  constructor
  ·rintro (h1|⟨h1,h2⟩)
   ·exact Or.inl h1
   ·exact Or.inr ⟨h1,(h.some hk (by omega)).2 h2⟩
  ·rintro (h1|⟨h1,h2⟩)
   ·exact Or.inl h1
   ·exact Or.inr ⟨h1,(h.some hk (by omega)).1 h2⟩
 unfold CY;rw [List.any_eq_true]
 constructor
 ·rintro ⟨u,hm,hx⟩
  obtain ⟨k,rfl,hk⟩:=hu u hm;exact ⟨k,hk,by unfold IH inM;rw [decide_eq_true hm,(hh k hk).1 hx];rfl⟩
 ·rintro ⟨k,hk,hx⟩
  unfold IH inM at hx;rw [Bool.and_eq_true] at hx;exact ⟨k,of_decide_eq_true hx.1,(hh k hk).2 hx.2⟩
def Kg(mt:Nat→Nat→Bool)(to nn i n k:Nat)(l l':List Int):Prop :=
 (l'=l∧(gi l i≠0∨∀k',k'<k→IH mt to nn i l k'=false))∨(l'=l.set i nn∧gi l i=0∧∃k',k'<n∧IH mt to nn i l k'=true)
theorem L4{kss:List (List Int)}{to nn i n k:Nat}{l l':List Int}{g:Int→Option Int}(h:FarL l g n)(hi:i<n)(hn:1≤nn)(hu:∀u∈kss.getD i [],∃k:Nat,u=k∧k<n)(hr:Kg (inM kss) to nn i n k l l')(hk:k=n∨gi l' i≠0):FarL l' (En kss to nn i g) n:=by
 unfold En;rcases hr with ⟨rfl,hr⟩|⟨rfl,h0,k',hA,hh⟩
 ·by_cases h0:gi l' i=0
  ·have hg:=(h.zero hi).1 h0
   rw [hg];have hB:k=n:=hk.resolve_right (λe=>e h0);subst hB;have hC:=hr.resolve_left (λe=>e h0)
   have:CY (kss.getD i []) to nn g≠true:=λhs=>by
    obtain ⟨q,hq,hx⟩:=(KG h hu).1 hs;rw [hC q hq] at hx;cases hx
   rw [if_neg (by simp),if_neg this];exact h
  ·have hg:(g i).isSome=true:=by
    cases e:g i with
    | none=>exact absurd ((h.zero hi).2 e) h0
    | some v=>rfl
   rw [if_pos hg];exact h
 ·have hg:=(h.zero hi).1 h0
  rw [hg];rw [if_neg (by simp),if_pos ((KG h hu).2 ⟨k',hA,hh⟩)];exact h.put hi (by omega)
structure StS(W:World)(F n:Nat)(l:List Int)(wr:World):Prop where
 row:BI wr F l
 below:Below W.heap.size W wr
 low:W.heap.size≤F
 len:l.length=n
theorem StS.set{W wr:World}{F n:Nat}{l:List Int}(h:StS W F n l wr)(i:Nat)(x:Int):StS W F n (l.set i x) (wr.setCell ⟨F,i,none⟩ (int i64 x)) :=
 ⟨h.row.set i x,h.below.trans ((ButOne.setCell (W:=wr) (p:=⟨F,i,none⟩) (int i64 x)).below h.low h.below.size),h.low,by rw [List.length_set];exact h.len⟩
def U9(kss:List (List Int))(n to:Nat)(W:World)(e:Ending)(w':World):Prop:=∃F l,e=.returned (.slice (some ⟨F,0,none⟩) n n)∧StS W F n l w'∧FarL l (AN kss to n) n
theorem LG(n:Nat):FarL (List.replicate n 0) (λ_=>none) n:=⟨List.length_replicate,λk hk=>T6 n k 0 hk,λ_ _ _ h=>by cases h⟩
theorem EP(b:Bool):b=false∨b=true:=by cases b<;>simp
theorem Di(p:Prop):p∨¬p:=Classical.em p
theorem O6(v:Value)(n:Nat)(kss:List (List Int))(to:Nat)(W:World)(hM:IsMatB W v n (inM kss))(hN:kss.length=n)(hn:n≤999)(hu:∀j,j<n→∀u∈kss.getD j [],∃k:Nat,u=k∧k<n):Calls Tryz.prog 33 #[v,int i64 to] W (U9 kss n to W):=by
 obtain ⟨ao,cap,rfl,hf,hc⟩:=hM;have HF:=qh hf;have HC:=qh hc;have HU:=qh hu;have HK:=qh hN;have hH:=Jf n (by omega) W;obtain ⟨W1,hJ⟩:∃W1,W.alloc (.cells (Array.replicate n (int i64 0)) 3)=W1:=⟨_,rfl⟩
 have hO:Hid (StS W W.heap.size n (List.replicate n 0) W1):=qh (by
  rw [← hJ];exact ⟨BI.new W n,(Below.refl _ _).alloc (qn _) _,qn _,List.length_replicate⟩)
 obtain ⟨F,hP⟩:∃F,W.heap.size=F:=⟨_,rfl⟩;rw [hJ] at hH;rw [hP] at hH hO;clear hf hc hu hN hJ hP;go_enter Tryz.func33,Tryz.ntmps33;go_wp2_with fail;clear hH;go_loopw [6] (λnv wr=>∃(m:Nat) (l:List Int),nv=int i64 ((m+1:Nat):Int)∧m≤n∧Hid (StS W F n l wr)∧Hid (FarL l (AN kss to m) n)) (λnv _=>n+2-(intOf nv).toNat)
 case atStart=>exact ⟨0,_,rfl,Nat.zero_le _,hO,qh (LG n)⟩
 case round =>
  obtain ⟨m,l,rfl,hY,hS,hL⟩:=hrel;obtain ⟨nn,hQ⟩:∃nn,m+1=nn:=⟨_,rfl⟩;rw [hQ];by_cases hZ:m<n
  ·have hi:(nn:Int)≤(n:Int):=by omega
   have hC:=qh hQ;go_wp2_with fail;go_loopw [7] (λiv wr=>∃(i:Nat) (l:List Int),iv=int i64 i∧i≤n∧Hid (StS W F n l wr)∧Hid (FarL l (Es kss to nn (AN kss to m) i) n)) (λiv _=>n+1-(intOf iv).toNat)
   case atStart=>exact ⟨0,l,rfl,Nat.zero_le _,hS,hL⟩
   case round =>
    clear hS hL l;obtain ⟨i,l,rfl,ha,hS,hL⟩:=hrel;by_cases hA:i<n
    ·have hb:(i:Int)<(n:Int):=by omega
     obtain ⟨R,r1,r2⟩:=HC.out i hA;have hU:=qh r1;have hV:=qh r2;have hW:=HF.out.resolve_left (by omega);clear r1 r2;generalize hX:blk ao=bb at *;subst hW;clear hX HF;go_wp2_with fail;go_loopw [8] (λkv wr=>∃(k:Nat) (l':List Int),kv=int i64 k∧k≤n∧Hid (StS W F n l' wr)∧Hid (Kg (inM kss) to nn i n k l l')) (λkv _=>n+1-(intOf kv).toNat)
     case atStart=>exact ⟨0,l,rfl,Nat.zero_le _,hS,qh (Or.inl ⟨rfl,Or.inr λk' hR=>absurd hR (Nat.not_lt_zero _)⟩)⟩
     case round =>
      clear hS;obtain ⟨k,l',rfl,hd,hS,hI⟩:=hrel;by_cases hB:k<n
      ·have he:(k:Int)<(n:Int):=by omega
       have y1:=hS.out.row.cell (j:=i) (by rw [hS.out.len];exact hA);rcases Di (gi l' i=0) with h0|h0
       ·rw [h0] at y1
        have hK:=qh h0;clear h0;have y2:=Ac hS.out.below hU.out;have y3:=Ac hS.out.below (hV.out k hB);have y4:=hS.out.row.cell (j:=k) (by rw [hS.out.len];exact hB);have yf:=hS.out.row.free i;have hD:=qh (hS.out.set i nn)
        obtain ⟨e1,e2⟩:l'=l∧∀k',k'<k→IH (inM kss) to nn i l k'=false:=by
         rcases hI.out with ⟨h1,h2⟩|⟨h1,h2,h3⟩
         ·subst h1;exact ⟨rfl,h2.resolve_left (λe=>e hK.out)⟩
         ·exfalso
          have:=hK.out;rw [h1,JM _ _ _ _ (by have:=hS.out.len;rw [h1,List.length_set] at this;omega),if_pos rfl] at this;have:=hC.out;omega
        have E1:=qh e1
        have hG:Hid (IH (inM kss) to nn i l k=false→Kg (inM kss) to nn i n (k+1) l l'):=qh (λh=>Or.inl ⟨e1,Or.inr λk' hR=>by
         by_cases e:k'=k
         ·rw [e];exact h
         ·exact e2 k' (by omega)⟩)
        have hT:Hid (IH (inM kss) to nn i l k=true→Kg (inM kss) to nn i n (k+1) l (l'.set i nn)):=qh (λh=>Or.inr ⟨by rw [e1],by rw [← e1];exact hK.out,k,hB,h⟩);have hE:Hid (IH (inM kss) to nn i l k=(inM kss i k&&((decide (nn=1)&&decide (k=to))||(decide (1<nn)&&decide (gi l' k=(nn:Int)-1))))):=qh (by rw [e1];rfl);clear e1 e2;have FIN:Hid (IH (inM kss) to nn i l k=false→Kg (inM kss) to nn i n (k+1) l l'):=hG;rcases EP (inM kss i k) with q0|q0
        ·rw [q0] at y3
         have HN:=qh (hG.out (by rw [hE.out,q0];rfl));clear q0;go_wp2_with fail;go_roundw
         case rel=>exact ⟨k+1,l',by go_num,by omega,hS,HN⟩
         case measure=>simp [intOf];omega
        ·rw [q0] at y3
         rcases Di (nn=1) with q1|q1
         ·have f1:((nn:Int)==1)=true:=by rw [q1];rfl
          have f2:¬(1:Int)<(nn:Int):=by omega
          rcases Di (k=to) with q2|q2
          ·have f3:((k:Int)==(to:Int))=true:=by rw [q2];simp
           have HN:=qh (hT.out (by rw [hE.out,q0,decide_eq_true q1,decide_eq_true q2];rfl));clear q0 q1 q2;go_wp2_with fail;go_roundw
           case rel=>exact ⟨k+1,_,by go_num,by omega,hD,HN⟩
           case measure=>simp [intOf];omega
          ·have f3:((k:Int)==(to:Int))=false:=by simp;omega
           have HN:=qh (hG.out (by rw [hE.out,q0,decide_eq_true q1,decide_eq_false q2,decide_eq_false (show ¬1<nn by omega)];rfl));clear q0 q1 q2;go_wp2_with fail;go_roundw
           case rel=>exact ⟨k+1,l',by go_num,by omega,hS,HN⟩
           case measure=>simp [intOf];omega
         ·have f1:((nn:Int)==1)=false:=by simp;omega
          have f2:(1:Int)<(nn:Int):=by have:=hC.out;omega
          rcases Di (gi l' k=(nn:Int)-1) with q2|q2
          ·have f3:(gi l' k==(nn:Int)-1)=true:=by rw [q2];simp
           have HN:=qh (hT.out (by rw [hE.out,q0,decide_eq_false q1,decide_eq_true q2,decide_eq_true (show 1<nn by omega)];rfl));clear q0 q1 q2;go_wp2_with fail;go_roundw
           case rel=>exact ⟨k+1,_,by go_num,by omega,hD,HN⟩
           case measure=>simp [intOf];omega
          ·have f3:(gi l' k==(nn:Int)-1)=false:=by simp [q2]
           have HN:=qh (hG.out (by rw [hE.out,q0,decide_eq_false q1,decide_eq_false q2];simp));clear q0 q1 q2;go_wp2_with fail;go_roundw
           case rel=>exact ⟨k+1,l',by go_num,by omega,hS,HN⟩
           case measure=>simp [intOf];omega
       ·have hg:(gi l' i==0)=false:=by simpa using h0
        have hF:=qh (L4 (k:=k) hL.out hA (show 1≤nn by have:=hC.out;omega) (HU.out i hA) hI.out (Or.inr h0));clear h0;go_wp2_with fail;go_roundw
        case rel=>exact ⟨i+1,l',by go_num,by omega,hS,hF⟩
        case measure=>simp [intOf];omega
      ·have:k=n:=by omega
       subst this;have hz:¬(k:Int)<(k:Int):=by omega
       have hF:=qh (L4 (k:=k) hL.out hA (show 1≤nn by have:=hC.out;omega) (HU.out i hA) hI.out (Or.inl rfl));go_wp2_with fail;go_roundw
       case rel=>exact ⟨i+1,l',by go_num,by omega,hS,hF⟩
       case measure=>simp [intOf];omega
    ·have:i=n:=by omega
     subst this;have hz:¬(i:Int)<(i:Int):=by omega
     have hF:Hid (FarL l (AN kss to (m+1)) i):=qh (by
      have:=hL.out;rw [← hC.out] at this;unfold AN
      rw [HK.out];exact this)
     go_wp2_with fail;go_roundw
     case rel=>exact ⟨m+1,l,by rw [← hC.out];go_num,by omega,hS,hF⟩
     case measure=>simp [intOf];omega
  ·have:m=n:=by omega
   subst this;have hz:¬(nn:Int)≤(m:Int):=by omega
   go_wp2_with fail;go_ret;exact ⟨F,l,rfl,hS.out,hL.out⟩
def EH(ps:List Ph)(n:Int):Prop:=(∀p∈ps,p.its.strip.ok 1=true)∧n+((ps.map λp=>p.its.strip.size).sum:Nat)≤4096
theorem LH(p:Ph)(r:List Ph)(n:Int):EH (p::r) n↔Dn p.its.strip 1 n∧EH r (n+p.its.strip.size):=by
 unfold EH Dn;simp only [List.mem_cons,forall_eq_or_imp,List.map_cons,List.sum_cons]
 constructor
 ·rintro ⟨⟨h1,h2⟩,h3⟩;exact ⟨⟨h1,by omega⟩,h2,by omega⟩
 ·rintro ⟨⟨h1,h4⟩,h2,h3⟩;exact ⟨⟨h1,h2⟩,by omega⟩
theorem Nl(s:Ls):s.strip.lims=true↔s.strip.fit=true∧EH s.phrases 0:=by
 rw [Ps];have hp:s.strip.phrases=s.phrases.map Ph.strip:=rfl;unfold EH Fx;rw [hp,List.map_map];have:(λp:Phr=>p.items.size) ∘ Ph.strip=λp:Ph=>p.its.strip.size:=rfl
 rw [this]
 constructor
 ·rintro ⟨h1,h2,h3⟩
  exact ⟨h1,λp hp=>h2 p.strip (List.mem_map.2 ⟨p,hp,rfl⟩),by omega⟩
 ·rintro ⟨h1,h2,h3⟩
  refine ⟨h1,λp hp=>?_,by omega⟩;obtain ⟨q,hq,rfl⟩:=List.mem_map.1 hp;exact h2 q hq
theorem SZ(s:Ls):s.strip.fit=true↔s.roles.length≤64∧s.tempos.length≤4096∧s.pauses.length≤4096∧s.spans.length≤256∧s.phrases.length≤64∧s.dances.length≤256:=by
 rw [SY];have h1:s.strip.phrases.length=s.phrases.length:=by show (s.phrases.map Ph.strip).length=_;rw [List.length_map]
 rw [h1];exact Iff.rfl
theorem II(s:Ls)(w:World)(hA:s.At w):Calls Tryz.prog 77 #[s.val] w λe w'=>e=.returned (.bool s.strip.lims)∧Below w.heap.size w w':=by
 obtain ⟨W1,hI,g1,b1,s1⟩:=Ag w s.cells 30;have hJ:=hA.below b1;obtain ⟨res,hE⟩:∃r,s.strip.lims=r:=⟨_,rfl⟩;rw [hE];have hB:=qh hE;have hC:=qh (SZ s);have hD:=qh (Nl s);have HB:=qh b1;have hF:=qh hJ;have y6:W1.cell? ⟨w.heap.size,6,none⟩=some (.slice s.ra s.roles.length s.rc):=Aa g1 6 rfl;have y7:W1.cell? ⟨w.heap.size,7,none⟩=some (.slice s.ta s.tempos.length s.tc):=Aa g1 7 rfl;have y8:W1.cell? ⟨w.heap.size,8,none⟩=some (.slice s.ua s.pauses.length s.uc):=Aa g1 8 rfl;have y9:W1.cell? ⟨w.heap.size,9,none⟩=some (.slice s.sa s.spans.length s.sc):=Aa g1 9 rfl;have y10:W1.cell? ⟨w.heap.size,10,none⟩=some (.slice s.fa s.phrases.length s.fc):=Aa g1 10 rfl;have y11:W1.cell? ⟨w.heap.size,11,none⟩=some (.slice s.da s.dances.length s.dc):=Aa g1 11 rfl;have hv:s.val=.agg s.cells:=rfl;rw [hv];unfold Ls.cells at hI ⊢;clear hv hA hJ g1 b1 hE s1;by_cases q0:s.roles.length≤64
 case neg =>
  have c0:(64:Int)<(s.roles.length:Int):=by omega
  have HF:Hid (res=false):=qh (by rw [← hB.out,← Bool.not_eq_true,hD.out,hC.out];omega);clear hC hD hB;go_enter Tryz.func77,Tryz.ntmps77;go_wp2_with fail;go_ret;exact ⟨by rw [HF.out];rfl,HB.out⟩
 have c0:¬(64:Int)<(s.roles.length:Int):=by omega
 by_cases q1:s.tempos.length≤4096
 case neg =>
  have c1:(4096:Int)<(s.tempos.length:Int):=by omega
  have HF:Hid (res=false):=qh (by rw [← hB.out,← Bool.not_eq_true,hD.out,hC.out];omega);clear hC hD hB;go_enter Tryz.func77,Tryz.ntmps77;go_wp2_with fail;go_ret;exact ⟨by rw [HF.out];rfl,HB.out⟩
 have c1:¬(4096:Int)<(s.tempos.length:Int):=by omega
 by_cases q2:s.pauses.length≤4096
 case neg =>
  have c2:(4096:Int)<(s.pauses.length:Int):=by omega
  have HF:Hid (res=false):=qh (by rw [← hB.out,← Bool.not_eq_true,hD.out,hC.out];omega);clear hC hD hB;go_enter Tryz.func77,Tryz.ntmps77;go_wp2_with fail;go_ret;exact ⟨by rw [HF.out];rfl,HB.out⟩
 have c2:¬(4096:Int)<(s.pauses.length:Int):=by omega
 by_cases q3:s.spans.length≤256
 case neg =>
  have c3:(256:Int)<(s.spans.length:Int):=by omega
  have HF:Hid (res=false):=qh (by rw [← hB.out,← Bool.not_eq_true,hD.out,hC.out];omega);clear hC hD hB;go_enter Tryz.func77,Tryz.ntmps77;go_wp2_with fail;go_ret;exact ⟨by rw [HF.out];rfl,HB.out⟩
 have c3:¬(256:Int)<(s.spans.length:Int):=by omega
 by_cases q4:s.phrases.length≤64
 case neg =>
  have c4:(64:Int)<(s.phrases.length:Int):=by omega
  have HF:Hid (res=false):=qh (by rw [← hB.out,← Bool.not_eq_true,hD.out,hC.out];omega);clear hC hD hB;go_enter Tryz.func77,Tryz.ntmps77;go_wp2_with fail;go_ret;exact ⟨by rw [HF.out];rfl,HB.out⟩
 have c4:¬(64:Int)<(s.phrases.length:Int):=by omega
 by_cases q5:s.dances.length≤256
 case neg =>
  have c5:(256:Int)<(s.dances.length:Int):=by omega
  have HF:Hid (res=false):=qh (by rw [← hB.out,← Bool.not_eq_true,hD.out,hC.out];omega);clear hC hD hB;go_enter Tryz.func77,Tryz.ntmps77;go_wp2_with fail;go_ret;exact ⟨by rw [HF.out];rfl,HB.out⟩
 have c5:¬(256:Int)<(s.dances.length:Int):=by omega
 have HG:Hid (res=true↔EH s.phrases 0):=qh (by
  rw [← hB.out,hD.out,hC.out]
  exact ⟨λh=>h.2,λh=>⟨⟨q0,q1,q2,q3,q4,q5⟩,h⟩⟩)
 clear hC hD hB;go_enter Tryz.func77,Tryz.ntmps77;go_wp2_with fail;clear q0 q1 q2 q3 q5 c0 c1 c2 c3 c4 c5 y6 y7 y8 y9 y11;obtain ⟨n,hn⟩:∃n,s.phrases.length=n:=⟨_,rfl⟩;rw [hn] at y10 q4;have HN:=qh hn;clear hI hn;go_loopw [3,4] (λav iv wr=>∃(i:Nat) (a:Int),iv=int i64 i∧av=int i64 a∧i≤n∧0≤a∧a≤4097∧Hid (EH s.phrases 0↔EH (s.phrases.drop i) a)∧wr=W1) (λ_ iv _=>n+1-(intOf iv).toNat)
 case atStart=>exact ⟨0,0,rfl,rfl,Nat.zero_le _,by omega,by omega,qh Iff.rfl,rfl⟩
 case round =>
  obtain ⟨i,a,rfl,rfl,hY,hO,hP,hG,rfl⟩:=hrel;by_cases hH:a≤4096
  ·by_cases hK:i<n
   ·have hi:(i:Int)<(n:Int):=by omega
    obtain ⟨p,hp⟩:∃p,s.phrases[i]?=some p:=⟨_,qg (by rw [HN.out];exact hK)⟩;obtain ⟨c0,c1⟩:=Cm hF.out.phrases hp;obtain ⟨i1,i2,i3⟩:=Df hF.out.phrases hp;unfold Ph.val at c1;have hQ:=hF.out.pform.resolve_left (λe=>by rw [e] at hp;simp at hp);have C:=Px p.its.size p.its (qn _) p.ia p.ic 1 a wr (by omega) hO hP i1 i2 i3;have HC:=qh C
    have hL:s.phrases.drop i=p::s.phrases.drop (i+1):=by
     obtain ⟨h1,h2⟩:=ql.1 hp;rw [← h2];exact List.drop_eq_getElem_cons h1
    have hR:=qh hL;clear C i1 i2 i3 hp hL c0;generalize hS:blk s.fa=bf at *;generalize hT:off s.fa=of_ at *;generalize hU:s.fa=fa at *;subst hQ;clear hS hT hU
    go_wp2_with (go_at_call 98;refine HC.out.mono ?_;rintro e w5 ⟨x,rfl,hV,hM,rfl⟩;have HX:=qh hM;clear hM);have hW:0≤x:=by rcases HX.out with ⟨_,h⟩|⟨_,h⟩<;>omega
    have hX:Hid (EH s.phrases 0↔EH (s.phrases.drop (i+1)) x):=qh (by
     rw [hG.out,hR.out,LH];rcases HX.out with ⟨h1,h2⟩|⟨h1,h2⟩
     ·rw [h2];exact ⟨λh=>h.2,λh=>⟨h1.2,h⟩⟩
     ·exact ⟨λh=>absurd ⟨Or.inr (by omega),h.1⟩ h1,λh=>by have:=h.2;omega⟩)
    go_roundw
    case rel=>exact ⟨i+1,x,by go_num,rfl,by omega,hW,hV,hX,trivial⟩
    case measure=>simp [intOf];omega
   ·have:i=n:=by omega
    subst this;have hz:¬(i:Int)<(i:Int):=by omega
    have HY:Hid (res=true):=qh (by
     rw [HG.out,hG.out,← HN.out,List.drop_length]
     exact ⟨λp hp=>absurd hp (by simp),by simpa using hH⟩)
    go_wp2_with fail;go_ret;exact ⟨AT (by rw [HY.out]),HB.out⟩
  ·have hN:Hid (res=false):=qh (by
    rw [← Bool.not_eq_true,HG.out,hG.out]
    intro h;have:=h.2;omega)
   by_cases hK:i<n
   ·have hi:(i:Int)<(n:Int):=by omega
    go_wp2_with fail;go_ret;exact ⟨AT (by rw [hN.out]),HB.out⟩
   ·have hi:¬(i:Int)<(n:Int):=by omega
    go_wp2_with fail;go_ret;exact ⟨AT (by rw [hN.out]),HB.out⟩
structure Rh(s:Ls)(w W:World):Prop where
 below:Below w.heap.size w W
 src:W.heap[w.heap.size]?=some (.cells s.cells 30 (0,0))
 out:W.heap[w.heap.size+1]?=some (.cells zS 30 (0,0))
theorem Rh.next{s:Ls}{w W W':World}(h:Rh s w W)(hb:Below W.heap.size W W'):Rh s w W':=⟨h.below.trans (hb.mono h.below.size),Ah hb h.src,Ah hb h.out⟩
theorem I6{W:World}{B e k n c g:Nat}{xs:List Value}(h:W.ownsRow B e k (.slice (some ⟨g,0,none⟩) n c) n xs):FreeB W g∧g<W.heap.size∧∀j u,xs[j]?=some u→W.cell? ⟨g,0+j,none⟩=some u:=by
 rcases h.2 with ⟨e,_⟩|⟨g',cap,cur,e,hg,hh,hn,_,hA,ht⟩
 ·cases e
 ·cases e
  refine ⟨⟨cur,_,hh⟩,(qs.1 hh).1,λj u hj=>?_⟩;rw [← ht,List.getElem?_take] at hj
  split at hj
  ·rw [Nat.zero_add];exact Aa hh j (by rw [← Array.getElem?_toList];exact hj)
  ·cases hj
theorem TF(s:Ls)(ns:List Int)(w V0:World)(rv pv:Value)(hR:Rs s w V0 rv pv)(hT:s.At w)(hN:NsAt w s.refs ns)(hF:s.strip.lims=true)(hH:s.strip.named=true)(hd:s.strip.apart=true):
  (Ab 8 AH).wp Tryz.prog (bodyPost Tryz.prog Tryz.f52 (MS s ns w)) { tmps:=#[e0,.pointer (some ⟨w.heap.size,0,none⟩),.pointer (some ⟨(w.heap.size+1),0,none⟩),e3,e4,rv,pv,e7,e8,e9,ea,eb,ec,ed,ee,ef,eg,eh,ei,ej,ek,el,em,en,eo,ep,eq,er,es,et,eu,ev,ew,ex,ey,ez,eA,eB,eC,eD,eE,eF,eG,eH,eI,eJ,eK,eL,eM,eN,eO,eP,eQ,eR,eS,eT,eU,eV,eW,eX,eY,eZ,aa,ab,ac,ae,af,ag,ah,ai,aj,ak,al,am,an,ao,ap,aq,ar,au,av,aw,ax,ay,az,aA,aB,aC,aD,aE,aF,aG,aH,aI,aJ,aK,aL,aM,aN,aO,aP,aQ,aR,aS,aT,aU,aV,aW,aX,aY,aZ,ba,bb,bc,bd,be,bf,bg,bh,bi,bj,bk,bl,bm,bn,bo,bp,bq],defers:=[] } V0:=by
 obtain ⟨hn,ho,hp,hr⟩:=CZ hF;have hA:s.At V0:=hT.below hR.below;obtain ⟨k1,k2,he,hg,hQ⟩:=NsAt.split (xs:=Aw s.phrases) (hN.below hR.below);obtain ⟨V1,hS,gV1,bV1⟩:=AC (W:=V0.alloc (.cells zS 30)) (B:=V0.heap.size) (cs:=s.cells) (n:=V0.heap.size) (heap_alloc_new V0 _) ((Below.refl _ _).alloc (qn _) _) (qn _);have sV1:V1.heap.size=V0.heap.size+1:=by rw [← hS];simp [World.setRow]
 unfold zS at hS;obtain ⟨news,l1,l2,l3⟩:=Ea (PP hA.phrases);obtain ⟨newd,d1,d2,d3⟩:=Ea (LC hA.dances hQ);have hh:=qh hS;have hv:=qh hR;have HL:=qh hR.src;rw [Qx];refine Ae (λK hK=>?_);have HK:=qh hK;clear hK
 conv=>arg 2;whnf
 go_wp2_with (first|(refine wpList_load_row rfl 30 _ rfl w.heap.size rfl 30 s.cells (0,0) _ HL.out Tryz.underlying30 rfl (by kernel_rfl) ?_;simp only [Act.put,qD,qE,qF])|(refine wpList_store_row rfl 30 _ _ rfl V0.heap.size s.cells rfl rfl 30 _ (heap_alloc_new V0 _) (by kernel_rfl) rfl (FK s) ?_;rw [hh.out]));refine HK.out _ _ ?_;clear HK K hh HL;rw [Qy];refine Ae (λK hK=>?_);have hI:s.phrases.length≤100000:=by omega
 have hC:s.dances.length≤100000:=by omega
 have hD:∀ad,s.fa=some ad→∀j u,news[j]?=some u→V1.cell? (ad.add j)=some u:=λad ha j u hj=>by
  rcases hA.pform with h0|h0
  ·have:=(ql.1 hj).1;rw [h0] at l1;simp at l1;simp [l1] at this
  ·rw [h0] at ha;cases ha
   rw [AM];exact Ac bV1 (l2 j u hj)
 have hJ:s.fa=none→s.phrases.length=0:=λe=>by
  rcases hA.pform with h0|h0
  ·rw [h0];rfl
  ·rw [e] at h0;cases h0
 refine wp_mono (Tw w.heap.size V0.heap.size (.pointer (some ⟨w.heap.size+1,0,none⟩)) rv pv s.cells s.cells s.fa s.phrases.length s.fc news V1 (Ah bV1 hR.src) gV1 rfl (by simp [Ls.cells]) (by omega) hI hJ hD l3 K ?_) By;intro g fc V2 hi hs hU gB2
 intros
 refine hK _ _ ?_;clear hK K;have hV:=hU.size;have hW:V0.heap.size<V1.heap.size:=by omega
 have hB:Below V0.heap.size V0 V2:=bV1.trans (hU.below (qn _) bV1.size);obtain ⟨q1,q2,q3⟩:=I6 hi
 have hL:Bd V2 g 0 s.phrases:=JT hB hA.phrases (λq v hq hc=>by
  obtain ⟨u,hu⟩:∃u,news[q]?=some u:=⟨_,qg (by omega)⟩;have:=l2 q u hu;rw [hc] at this;cases this
  exact q3 q v hu)
 rw [NM];refine Ae (λK hK=>?_)
 have hE:∀ad,s.da=some ad→∀j u,newd[j]?=some u→V2.cell? (ad.add j)=some u:=λad ha j u hj=>by
  rcases hA.dform with h0|h0
  ·have:=(ql.1 hj).1;rw [h0] at d1;simp at d1;simp [d1] at this
  ·rw [h0] at ha;cases ha
   rw [AM];exact Ac hB (d2 j u hj)
 have hM:s.da=none→s.dances.length=0:=λe=>by
  rcases hA.dform with h0|h0
  ·rw [h0];rfl
  ·rw [e] at h0;cases h0
 refine wp_mono (RG w.heap.size V0.heap.size (.pointer (some ⟨w.heap.size+1,0,none⟩)) rv pv s.cells (s.cells.setIfInBounds 10 (.slice (some ⟨g,0,none⟩) s.phrases.length fc)) s.da s.dances.length s.dc newd V2 (Ah hB hR.src) gB2 rfl (by simp [Ls.cells]) (by omega) hC hM hE d3 K ?_) By;intro D dc V3 hk ht hG gB3
 intros
 refine hK _ _ ?_;clear hK K;have hX:=hG.size;have hO:Below V0.heap.size V0 V3:=hB.trans (hG.below (qn _) hB.size);obtain ⟨r1,r2,r3⟩:=I6 hk
 have hY:Cp V0 (blk s.da) (off s.da) V3 D 0 (6*s.dances.length):=λq v hq hc=>by
  obtain ⟨u,hu⟩:∃u,newd[q]?=some u:=⟨_,qg (by omega)⟩;have:=d2 q u hu;rw [hc] at this;cases this;exact r3 q v hu
 have hl:Bh V3 D 0 s.dances:=GN hA.dances hY;have hm:NsAt V3 (Al D 0 s.dances) k2:=GO hQ hY;have hZ:g≠V0.heap.size:=by omega
 have hP:Bd V3 g 0 s.phrases:=Dz hL (λq v _ _ hc=>hG.cellk hZ hc) (λc hc q v h=>hG.cellk (by have:=E9 hA.phrases c hc;omega) h);have hb:=qh (λe=>RH s ns k1 k2 w V0 V3 rv pv V0.heap.size g D s.phrases.length fc dc hR hT hN he hg hQ rfl hF hH hd hO gB3 (by omega) (by omega) (by omega) (by omega) (by omega) (qn _) (by omega) r2 (by obtain ⟨cur,t,hf⟩:=q1;exact ⟨cur,t,hG.blocks hf hZ⟩) r1 hP (DanI.of hl hm) e);clear hR hT hN hF hH hd hn ho hp hr hA he hg hQ hS gV1 bV1 sV1 l1 l2 l3 d1 d2 d3 hI hC hD hJ hi hs hU gB2 hV hW hB q1 q2 q3 hL hE hM hk ht hG gB3 hX hO r1 r2 r3 hY hl hm hZ hP;rw [NN];refine Ae (λK hK=>?_);have HK:=qh hK;clear hK
 conv=>arg 2;whnf
 go_wp2_with fail;refine HK.out _ _ ?_;exact hb.out _ _ _ _ _ _ _ _ _ _ _ _ _ _ _ _ _ _ _ _ _ _ _ _ _ _ _ _ _ _ _ _ _ _ _ _ _ _ _ _ _ _ _ _ _ _ _ _ _ _ _ _ _ _ _ _ _ _ _ _ _ _ _ _ _ _ _ _ _ _ _ _ _ _ _ _ _ _ _ _ _ _ _ _ _ _ _ _ _ _ _ _ _ _ _ _ _ _ _ _ _ _ _ _ _ _ _ _ _ _ _ _ _ _ _ _ _ _ _ _ _ _ _
theorem IM(s:Ls)(ns:List Int)(w:World)(hA:s.At w)(hN:NsAt w s.refs ns):Calls Tryz.prog 52 #[s.val] w (MS s ns w):=by
 obtain ⟨W1,hn,hX,hY,hB,hS⟩:=K9 w s.cells zS;have H1:Hid (Rh s w W1):=qh ⟨hB,hX,hY⟩;have hv:s.val=.agg s.cells:=rfl;rw [hv];have HA:=qh hA;have HN:=qh hN;have hp:=qh hn;obtain ⟨b1,he⟩:∃b,s.strip.lims=b:=⟨_,rfl⟩;have hP:=qh he
 have C77:=λV (hV:Below w.heap.size w V)=>(by have:=II s V (hA.below hV);rw [he] at this;exact this:Calls Tryz.prog 77 #[.agg s.cells] V _)
 have hW:=qh C77;clear C77 he hA hN hn hX hY hB hS hv;go_enter Tryz.func52,Tryz.ntmps52;change Code.wp Tryz.prog (.seq OL (Ab 1 AH)) _ _ _;refine Ae (λK hK=>?_);have HK:=qh hK;clear hK
 conv=>arg 2;whnf
 go_wp2_with fail;refine HK.out _ _ ?_;clear HK K;have e0:(w.alloc (.cells s.cells 30)).alloc (.cells zS 30)=W1:=hp.out;unfold zS at e0;rw [e0];clear e0 hp;rw [Qq];refine Ae (λK hK=>?_);have HK:=qh hK;clear hK
 conv=>arg 2;whnf
 have HL:=qh H1.out.src
 go_wp2_with (first|(refine wpList_load_row rfl 30 _ rfl w.heap.size rfl 30 s.cells (0,0) _ HL.out Tryz.underlying30 rfl (by kernel_rfl) ?_;simp only [Act.put,qD,qE,qF])|(go_at_call 77;refine (hW.out _ H1.out.below).mono ?_;rintro e V1 ⟨rfl,hv⟩;have H2:=qh (H1.out.next hv);clear hv));refine HK.out _ _ ?_;clear HK K HL H1 hW;rw [Qr];refine Ae (λK hK=>?_);have HK:=qh hK;clear hK
 conv=>arg 2;whnf
 cases b1 with
 | false =>
  obtain ⟨W9,hF,g9,b9⟩:=AC (cs:=zS) (n:=w.heap.size) H2.out.out H2.out.below (by omega);have hH:=qh H2.out.out;have hI:=qh hF;have hJ:=qh g9;have hL:=qh b9;clear hF g9 b9;have hC:Hid (Bs s.strip ns=2):=qh (by unfold Bs;rw [if_pos hP.out])
  go_wp2_with (refine wpList_store_row rfl 30 _ _ rfl (w.heap.size+1) zS rfl rfl 30 _ hH.out (by kernel_rfl) rfl DY ?_;rw [hI.out]);refine bodyPost_ret (v:=.tuple #[.agg zS,int i64 2]) ?_ rfl (Or.inr ⟨by rw [hC.out];decide,by rw [hC.out],hL.out⟩);have hX:=hJ.out;unfold zS at hX ⊢;have z0:=Aa hX 0 rfl;have z1:=Aa hX 1 rfl;have z2:=Aa hX 2 rfl;have z3:=Aa hX 3 rfl;have z4:=Aa hX 4 rfl;have z5:=Aa hX 5 rfl;have z6:=Aa hX 6 rfl;have z7:=Aa hX 7 rfl;have z8:=Aa hX 8 rfl;have z9:=Aa hX 9 rfl;have za:=Aa hX 10 rfl;have zb:=Aa hX 11 rfl;simp [results,Tryz.results52,go_sem,z0,z1,z2,z3,z4,z5,z6,z7,z8,z9,za,zb]
 | true =>
 go_wp2_with fail;refine HK.out _ _ ?_;clear HK K;obtain ⟨ht,hu,hw,hx⟩:=CZ hP.out;have hZ:=qh (λV (hV:Below w.heap.size w V)=>(L3 s V (HA.out.below hV) (by omega):Calls Tryz.prog 78 #[.agg s.cells] V _));have ha:=qh (λV (hV:Below w.heap.size w V)=>(IK s V (HA.out.below hV) (by omega):Calls Tryz.prog 79 #[.agg s.cells] V _));have hc:Hid (s.strip.rnames.length≤100000∧s.strip.pnames.length≤100000):=qh ⟨by unfold Sc.rnames Ls.strip;simp;omega,by unfold Sc.pnames Ls.strip;simp;omega⟩;clear ht hu hw hx;rw [Qs];refine Ae (λK hK=>?_);have HK:=qh hK;clear hK
 conv=>arg 2;whnf
 have HL:=qh H2.out.src
 go_wp2_with (first|(refine wpList_load_row rfl 30 _ rfl w.heap.size rfl 30 s.cells (0,0) _ HL.out Tryz.underlying30 rfl (by kernel_rfl) ?_;simp only [Act.put,qD,qE,qF])|(go_at_call 78;refine (hZ.out _ H2.out.below).mono ?_;rintro e V2 ⟨rv,rfl,ho,hv⟩;have H3:=qh (H2.out.next hv);have hq:Hid (StrRow V2 rv s.strip.rnames):=qh (MI ho);clear hv ho));refine HK.out _ _ ?_;clear HK K HL hZ H2;rw [Qt];refine Ae (λK hK=>?_);have HK:=qh hK;clear hK
 conv=>arg 2;whnf
 have HL:=qh H3.out.src
 go_wp2_with (first|(refine wpList_load_row rfl 30 _ rfl w.heap.size rfl 30 s.cells (0,0) _ HL.out Tryz.underlying30 rfl (by kernel_rfl) ?_;simp only [Act.put,qD,qE,qF])|(go_at_call 79;refine (ha.out _ H3.out.below).mono ?_;rintro e V3 ⟨pv,rfl,ho,hv⟩;have H4:=qh (H3.out.next hv);have hr:Hid (StrRow V3 rv s.strip.rnames):=qh (hq.out.below hv);have hs:Hid (StrRow V3 pv s.strip.pnames):=qh (by have h9:=MI ho;have e9:s.strip.pnames=s.phrases.map (λp=>p.name):=(by unfold Sc.pnames Ls.strip;simp only [List.map_map];rfl);rw [e9];exact h9);clear hv ho));refine HK.out _ _ ?_;clear HK K HL ha H3 hq;rw [Qu];refine Ae (λK hK=>?_);have HK:=qh hK;clear hK
 conv=>arg 2;whnf
 have y0:V3.cell? ⟨w.heap.size,0,none⟩=some (sv s.name):=Aa H4.out.src 0 rfl;obtain ⟨n1,hf⟩:∃b,Av s.name=b:=⟨_,rfl⟩;obtain ⟨n2,hg⟩:∃b,s.strip.rnames.all Av=b:=⟨_,rfl⟩;obtain ⟨n3,hh⟩:∃b,s.strip.pnames.all Av=b:=⟨_,rfl⟩;have hb:=qh (by have:=I4 s.name V3;rw [hf] at this;exact this)
 go_wp2_with (go_at_call 80;refine hb.out.mono ?_;rintro e V4 ⟨rfl,hv⟩;have H5:=qh (H4.out.next hv);have hi:=qh (hr.out.below hv);have hj:=qh (hs.out.below hv);clear hv y0);refine HK.out _ _ ?_;clear HK K hb H4 hr hs;have hd:Hid (s.strip.named=(n1&&(n2&&n3))):=qh (by unfold Sc.named;rw [hg,hh];show (Av s.name&&_)=_;rw [hf]);have hO:=qh (λV (hV:Below V4.heap.size V4 V)=>(by have:=Jk s.strip.rnames rv V (hi.out.below hV) hc.out.1;rw [hg] at this;exact this));have hM:=qh (λV (hV:Below V4.heap.size V4 V)=>(by have:=Jk s.strip.pnames pv V (hj.out.below hV) hc.out.2;rw [hh] at this;exact this));clear hf hg hh;have st0:True:=trivial;rw [Qv];refine Ae (λK hK=>?_);have HK:=qh hK;clear hK
 conv=>arg 2;whnf
 rcases AY n1 with rfl|rfl
 ·skip
  obtain ⟨W9,hF,g9,b9⟩:=AC (cs:=zS) (n:=w.heap.size) H5.out.out H5.out.below (by omega);have hH:=qh H5.out.out;have hI:=qh hF;have hJ:=qh g9;have hL:=qh b9;clear hF g9 b9;have hC:Hid (Bs s.strip ns=170):=qh (by unfold Bs;rw [if_neg (by rw [hP.out];decide),if_pos (by rw [hd.out];simp)])
  go_wp2_with (first
   | (refine wpList_store_row rfl 30 _ _ rfl (w.heap.size+1) zS rfl rfl 30 _ hH.out (by kernel_rfl) rfl DY ?_;rw [hI.out]))
  refine bodyPost_ret (v:=.tuple #[.agg zS,int i64 170]) ?_ rfl (Or.inr ⟨by rw [hC.out];decide,by rw [hC.out],hL.out⟩);have hX:=hJ.out;unfold zS at hX ⊢;have z0:=Aa hX 0 rfl;have z1:=Aa hX 1 rfl;have z2:=Aa hX 2 rfl;have z3:=Aa hX 3 rfl;have z4:=Aa hX 4 rfl;have z5:=Aa hX 5 rfl;have z6:=Aa hX 6 rfl;have z7:=Aa hX 7 rfl;have z8:=Aa hX 8 rfl;have z9:=Aa hX 9 rfl;have za:=Aa hX 10 rfl;have zb:=Aa hX 11 rfl;simp [results,Tryz.results52,go_sem,z0,z1,z2,z3,z4,z5,z6,z7,z8,z9,za,zb]
 rcases AY n2 with rfl|rfl
 ·skip
  have hC:Hid (Bs s.strip ns=170):=qh (by unfold Bs;rw [if_neg (by rw [hP.out];decide),if_pos (by rw [hd.out];simp)])
  go_wp2_with (first
   | (have q:=st0;go_at_call 81;refine (hO.out _ (Below.refl _ _)).mono ?_;rintro e V5 ⟨rfl,hv⟩;have H6:=qh (H5.out.next hv);have hE:=qh hv;clear q st0 hv;have st1:True:=trivial;obtain ⟨W9,hF,g9,b9⟩:=AC (cs:=zS) (n:=w.heap.size) H6.out.out H6.out.below (by omega);have hH:=qh H6.out.out;have hI:=qh hF;have hJ:=qh g9;have hL:=qh b9;clear hF g9 b9)
   | (refine wpList_store_row rfl 30 _ _ rfl (w.heap.size+1) zS rfl rfl 30 _ hH.out (by kernel_rfl) rfl DY ?_;rw [hI.out]))
  refine bodyPost_ret (v:=.tuple #[.agg zS,int i64 170]) ?_ rfl (Or.inr ⟨by rw [hC.out];decide,by rw [hC.out],hL.out⟩);have hX:=hJ.out;unfold zS at hX ⊢;have z0:=Aa hX 0 rfl;have z1:=Aa hX 1 rfl;have z2:=Aa hX 2 rfl;have z3:=Aa hX 3 rfl;have z4:=Aa hX 4 rfl;have z5:=Aa hX 5 rfl;have z6:=Aa hX 6 rfl;have z7:=Aa hX 7 rfl;have z8:=Aa hX 8 rfl;have z9:=Aa hX 9 rfl;have za:=Aa hX 10 rfl;have zb:=Aa hX 11 rfl;simp [results,Tryz.results52,go_sem,z0,z1,z2,z3,z4,z5,z6,z7,z8,z9,za,zb]
 rcases AY n3 with rfl|rfl
 ·skip
  have hC:Hid (Bs s.strip ns=170):=qh (by unfold Bs;rw [if_neg (by rw [hP.out];decide),if_pos (by rw [hd.out];simp)])
  go_wp2_with (first
   | (have q:=st0;go_at_call 81;refine (hO.out _ (Below.refl _ _)).mono ?_;rintro e V5 ⟨rfl,hv⟩;have H6:=qh (H5.out.next hv);have hE:=qh hv;clear q st0 hv;have st1:True:=trivial)
   | (have q:=st1;go_at_call 81;refine (hM.out _ hE.out).mono ?_;rintro e V6 ⟨rfl,hv⟩;have H7:=qh (H6.out.next hv);have hD:=qh (hE.out.trans (hv.mono hE.out.size));clear q st1 hv;obtain ⟨W9,hF,g9,b9⟩:=AC (cs:=zS) (n:=w.heap.size) H7.out.out H7.out.below (by omega);have hH:=qh H7.out.out;have hI:=qh hF;have hJ:=qh g9;have hL:=qh b9;clear hF g9 b9)
   | (refine wpList_store_row rfl 30 _ _ rfl (w.heap.size+1) zS rfl rfl 30 _ hH.out (by kernel_rfl) rfl DY ?_;rw [hI.out]))
  refine bodyPost_ret (v:=.tuple #[.agg zS,int i64 170]) ?_ rfl (Or.inr ⟨by rw [hC.out];decide,by rw [hC.out],hL.out⟩);have hX:=hJ.out;unfold zS at hX ⊢;have z0:=Aa hX 0 rfl;have z1:=Aa hX 1 rfl;have z2:=Aa hX 2 rfl;have z3:=Aa hX 3 rfl;have z4:=Aa hX 4 rfl;have z5:=Aa hX 5 rfl;have z6:=Aa hX 6 rfl;have z7:=Aa hX 7 rfl;have z8:=Aa hX 8 rfl;have z9:=Aa hX 9 rfl;have za:=Aa hX 10 rfl;have zb:=Aa hX 11 rfl;simp [results,Tryz.results52,go_sem,z0,z1,z2,z3,z4,z5,z6,z7,z8,z9,za,zb]
 go_wp2_with (first|(have q:=st0;go_at_call 81;refine (hO.out _ (Below.refl _ _)).mono ?_;rintro e V5 ⟨rfl,hv⟩;have H6:=qh (H5.out.next hv);have hE:=qh hv;clear q st0 hv;have st1:True:=trivial)|(have q:=st1;go_at_call 81;refine (hM.out _ hE.out).mono ?_;rintro e V6 ⟨rfl,hv⟩;have H7:=qh (H6.out.next hv);have hD:=qh (hE.out.trans (hv.mono hE.out.size));clear q st1 hv));refine HK.out _ _ ?_;clear HK K hO hM H5 H6 hE;have hR:Hid (s.strip.named=true):=qh (by rw [hd.out];rfl);obtain ⟨d1,hk⟩:∃b,(!decide s.strip.rnames.Nodup)=b:=⟨_,rfl⟩;obtain ⟨d2,hl⟩:∃b,(!decide s.strip.pnames.Nodup)=b:=⟨_,rfl⟩;have hT:=qh (λV (hV:Below V4.heap.size V4 V)=>(by have:=Gs s.strip.rnames rv V (hi.out.below hV) hc.out.1;rw [hk] at this;exact this));have hQ:=qh (λV (hV:Below V4.heap.size V4 V)=>(by have:=Gs s.strip.pnames pv V (hj.out.below hV) hc.out.2;rw [hl] at this;exact this));have hm:Hid (s.strip.apart=(!d1&&!d2)):=qh (by unfold Sc.apart;rw [← hk,← hl];simp);clear hk hl;have st0:True:=trivial;rw [Qw];refine Ae (λK hK=>?_);have HK:=qh hK;clear hK
 conv=>arg 2;whnf
 rcases AY d1 with rfl|rfl
 case inr =>
  have hC:Hid (Bs s.strip ns=171):=qh (by unfold Bs;rw [if_neg (by rw [hP.out];decide),if_neg (by rw [hR.out];decide),if_pos (by rw [hm.out];simp)])
  go_wp2_with (first
   | (have q:=st0;go_at_call 82;refine (hT.out _ hD.out).mono ?_;rintro e V7 ⟨rfl,hv⟩;have H8:=qh (H7.out.next hv);have hG:=qh (hD.out.trans (hv.mono hD.out.size));clear q st0 hv;have st1:True:=trivial;obtain ⟨W9,hF,g9,b9⟩:=AC (cs:=zS) (n:=w.heap.size) H8.out.out H8.out.below (by omega);have hH:=qh H8.out.out;have hI:=qh hF;have hJ:=qh g9;have hL:=qh b9;clear hF g9 b9)
   | (refine wpList_store_row rfl 30 _ _ rfl (w.heap.size+1) zS rfl rfl 30 _ hH.out (by kernel_rfl) rfl DY ?_;rw [hI.out]))
  refine bodyPost_ret (v:=.tuple #[.agg zS,int i64 171]) ?_ rfl (Or.inr ⟨by rw [hC.out];decide,by rw [hC.out],hL.out⟩);have hX:=hJ.out;unfold zS at hX ⊢;have z0:=Aa hX 0 rfl;have z1:=Aa hX 1 rfl;have z2:=Aa hX 2 rfl;have z3:=Aa hX 3 rfl;have z4:=Aa hX 4 rfl;have z5:=Aa hX 5 rfl;have z6:=Aa hX 6 rfl;have z7:=Aa hX 7 rfl;have z8:=Aa hX 8 rfl;have z9:=Aa hX 9 rfl;have za:=Aa hX 10 rfl;have zb:=Aa hX 11 rfl;simp [results,Tryz.results52,go_sem,z0,z1,z2,z3,z4,z5,z6,z7,z8,z9,za,zb]
 rcases AY d2 with rfl|rfl
 case inr =>
  have hC:Hid (Bs s.strip ns=171):=qh (by unfold Bs;rw [if_neg (by rw [hP.out];decide),if_neg (by rw [hR.out];decide),if_pos (by rw [hm.out];simp)])
  go_wp2_with (first
   | (have q:=st0;go_at_call 82;refine (hT.out _ hD.out).mono ?_;rintro e V7 ⟨rfl,hv⟩;have H8:=qh (H7.out.next hv);have hG:=qh (hD.out.trans (hv.mono hD.out.size));clear q st0 hv;have st1:True:=trivial)
   | (have q:=st1;go_at_call 82;refine (hQ.out _ hG.out).mono ?_;rintro e V8 ⟨rfl,hv⟩;have H9:=qh (H8.out.next hv);have hU:=qh (hG.out.trans (hv.mono hG.out.size));clear q st1 hv;obtain ⟨W9,hF,g9,b9⟩:=AC (cs:=zS) (n:=w.heap.size) H9.out.out H9.out.below (by omega);have hH:=qh H9.out.out;have hI:=qh hF;have hJ:=qh g9;have hL:=qh b9;clear hF g9 b9)
   | (refine wpList_store_row rfl 30 _ _ rfl (w.heap.size+1) zS rfl rfl 30 _ hH.out (by kernel_rfl) rfl DY ?_;rw [hI.out]))
  refine bodyPost_ret (v:=.tuple #[.agg zS,int i64 171]) ?_ rfl (Or.inr ⟨by rw [hC.out];decide,by rw [hC.out],hL.out⟩);have hX:=hJ.out;unfold zS at hX ⊢;have z0:=Aa hX 0 rfl;have z1:=Aa hX 1 rfl;have z2:=Aa hX 2 rfl;have z3:=Aa hX 3 rfl;have z4:=Aa hX 4 rfl;have z5:=Aa hX 5 rfl;have z6:=Aa hX 6 rfl;have z7:=Aa hX 7 rfl;have z8:=Aa hX 8 rfl;have z9:=Aa hX 9 rfl;have za:=Aa hX 10 rfl;have zb:=Aa hX 11 rfl;simp [results,Tryz.results52,go_sem,z0,z1,z2,z3,z4,z5,z6,z7,z8,z9,za,zb]
 go_wp2_with (first|(have q:=st0;go_at_call 82;refine (hT.out _ hD.out).mono ?_;rintro e V7 ⟨rfl,hv⟩;have H8:=qh (H7.out.next hv);have hG:=qh (hD.out.trans (hv.mono hD.out.size));clear q st0 hv;have st1:True:=trivial)|(have q:=st1;go_at_call 82;refine (hQ.out _ hG.out).mono ?_;rintro e V8 ⟨rfl,hv⟩;have H9:=qh (H8.out.next hv);have hU:=qh (hG.out.trans (hv.mono hG.out.size));clear q st1 hv));refine HK.out _ _ ?_;exact TF s ns w V8 rv pv ⟨H9.out.below,H9.out.src,H9.out.out,hi.out.below hU.out,hj.out.below hU.out⟩ HA.out HN.out hP.out hR.out (by rw [hm.out];rfl)
theorem Ss(s:Ls)(ns:List Int)(w:World)(hA:s.At w)(hN:NsAt w s.refs ns):Calls Tryz.prog 31 #[s.val] w (F5 s.strip ns w):=by
 obtain ⟨W1,hM,gW1,bW1,sW1⟩:=Ag w s.cells 30;obtain ⟨cs,hF⟩:∃cs,s.cells=cs:=⟨_,rfl⟩;have hv:s.val=.agg cs:=by rw [← hF];rfl
 have C52:=IM s ns W1 (hA.below bW1) (hN.below bW1);rw [hv] at C52 ⊢;rw [hF] at hM gW1;have HA:=qh hA;have HN:=qh hN;have hX:=qh hM;have HG:=qh gW1;have HB:=qh bW1;have hO:=qh C52;have hY:=qh hF;have hR:Hid (cs.size=12):=qh (by rw [← hF];rfl);clear hA hN hM gW1 bW1 sW1 hv C52 hF;go_enter Tryz.func31,Tryz.ntmps31;refine Ae (λK hK=>?_);have HK:=qh hK;clear hK;go_wp2_with fail;rw [hX.out];refine HK.out _ _ ?_;clear HK K
 go_wp2_with (refine wpList_load_row rfl 30 _ rfl w.heap.size rfl 30 cs (0,0) _ HG.out Tryz.underlying30 rfl (by rw [hR.out];kernel_rfl) ?_;simp only [Act.put,qD,qE,qF]);refine hO.out.mono ?_;intro e V hr;rcases hr with ⟨x,ks,h0,hG,hS,hT,hU,rfl,hb⟩|⟨h0,rfl,hb⟩
 ·obtain ⟨V1,hB,gV1,bV1⟩:=AC (W:=V.alloc (.cells zS 30)) (B:=V.heap.size) (cs:=x.cells) (n:=V.heap.size) (heap_alloc_new V _) ((Below.refl _ _).alloc (qn _) _) (qn _)
  obtain ⟨dd,hJ⟩:∃d:Bool,(d=true↔ns=ks):=⟨decide (ns=ks),by simp⟩;have hC:Below w.heap.size w V1:=HB.out.trans ((hb.trans (bV1.mono hb.size)).mono HB.out.size);have C53:=La s x ns ks dd hJ V1 (HA.out.below hC) (hT.below bV1) hS.symm (HN.out.below hC) (hU.below bV1);have hv:s.val=.agg cs:=by rw [← hY.out];rfl
  rw [hv] at C53;have hH:=qh C53
  have HE:Hid (BV s.strip ns=if dd then 0 else 170):=qh (by
   unfold BV;rw [if_pos h0,hG]
   cases dd with
   | true=>rw [if_pos (by rw [hJ.1 rfl])];rfl
   | false=>rw [if_neg (λe=>by have:=hJ.2 (by injection e with e;exact e.symm);cases this)];rfl)
  have hZ:Hid (V1.heap[w.heap.size]?=some (.cells cs 30 (0,0))):=qh (Ah bV1 (Ah hb HG.out));have ha:=qh gV1;have hL:=qh hC;unfold zS at hB;have hP:=qh hB;clear h0 hG hS hT hU hb hB gV1 bV1 hC C53 hv hJ;have hQ:x.val=.agg x.cells:=rfl;rw [hQ];rw [hQ] at hH;have hD:=qh (FK x);have hI:x.cells.size=12:=rfl;generalize x.cells=xc at *;have hE:=qh hI;clear hQ hI;rcases AY dd with rfl|rfl
  all_goals
   go_wp2_with (first
    | (refine wpList_store_row rfl 30 _ _ rfl V.heap.size xc rfl rfl 30 _ (heap_alloc_new V _) (by rw [hE.out];kernel_rfl) (by rw [hE.out];rfl) hD.out ?_;rw [hP.out])
    | (refine wpList_load_row rfl 30 _ rfl w.heap.size rfl 30 cs (0,0) _ hZ.out Tryz.underlying30 rfl (by rw [hR.out];kernel_rfl) ?_;simp only [Act.put,qD,qE,qF])
    | (refine wpList_load_row rfl 30 _ rfl V.heap.size rfl 30 xc (0,0) _ ha.out Tryz.underlying30 rfl (by rw [hE.out];kernel_rfl) ?_;simp only [Act.put,qD,qE,qF])
    | (go_at_call 53;refine hH.out.mono ?_;rintro e V2 ⟨rfl,hV⟩;have hc:=qh hV;clear hV))
   go_ret;exact ⟨by rw [HE.out];rfl,hL.out.trans (hc.out.mono hL.out.size)⟩
 ·obtain ⟨V1,hB,gV1,bV1⟩:=AC (W:=V.alloc (.cells zS 30)) (B:=V.heap.size) (cs:=zS) (n:=V.heap.size) (heap_alloc_new V _) ((Below.refl _ _).alloc (qn _) _) (qn _)
  have hC:Below w.heap.size w V1:=HB.out.trans ((hb.trans (bV1.mono hb.size)).mono HB.out.size);have hL:=qh hC;have HE:Hid (BV s.strip ns=Bs s.strip ns):=qh (by unfold BV;rw [if_neg h0]);have hD:=qh DY;have hW:=hB;have hI:zS.size=12:=rfl;generalize hz:zS=xc at *;unfold zS at hz;rw [← hz] at hB;have hE:=qh hI;have hP:=qh hW;have HZ:=qh hz;generalize hd:Bs s.strip ns=re at *;have h1:(re != 0)=true:=by simpa using h0
  clear hB hW gV1 bV1 hC hb hI hz hd
  go_wp2_with (refine wpList_store_row rfl 30 _ _ rfl V.heap.size xc rfl rfl 30 _ (heap_alloc_new V _) (by rw [hE.out];kernel_rfl) (by rw [hE.out];rfl) hD.out ?_;rw [HZ.out,hP.out]);go_ret;exact ⟨by rw [HE.out];rfl,hL.out⟩
def Dw(ls:List Int)(k:Int):Int:=gi ls k.toNat
def SA(x:Int)(w:World)(e:Ending)(w':World):Prop:=e=.returned (int i64 x)∧Below w.heap.size w w'
def Known(ls:List Int)(n:Nat)(us:List Int):Prop:=∀u∈us,∃i:Nat,u=i∧i<n∧0≤gi ls i∧gi ls i≤4097
theorem Known.bd{ls:List Int}{n:Nat}{us:List Int}(h:Known ls n us):∀u∈us,0≤Dw ls u∧Dw ls u≤4097:=λu hu=>by
 obtain ⟨i,rfl,_,h1,h2⟩:=h u hu;exact ⟨h1,h2⟩
theorem JP{a x:Int}(h1:0≤a)(h2:0≤x):0≤min (a+x) 4097∧min (a+x) 4097≤4097:=by omega
theorem FB(f:Nm→Int)(G n:Nat)(ls:List Int)(hn:n≤maxLen)(hc:ls.length=n)(T:Lt)
  (hI:∀T':Lt,T'.size<T.size→T'.strip.kinds=true→T'.strip.exB=true→Known ls n (T'.strip.uses f)→∀(ia:Option Addr) (ic:Nat) (W:World),(T'.len=0∨ia=some ⟨blk ia,off ia,none⟩)→T'.len≤maxLen→T'.At W (blk ia) (off ia)→NumAt f W (T'.refsL (blk ia) (off ia))→BI W G ls→Calls Tryz.prog 51 #[.slice ia T'.len ic,.slice (some ⟨G,0,none⟩) n n] W (SA (T'.strip.sumF f (Dw ls) 0) W))
  (hk:T.strip.kinds=true) (hx:T.strip.exB=true) (hd:Known ls n (T.strip.uses f)) (ia:Option Addr) (ic:Nat) (W:World) (hf:T.len=0∨ia=some ⟨blk ia,off ia,none⟩) (hl:T.len≤maxLen) (hT:T.At W (blk ia) (off ia)) (hU:NumAt f W (T.refsL (blk ia) (off ia))) (hG:BI W G ls):Calls Tryz.prog 51 #[.slice ia T.len ic,.slice (some ⟨G,0,none⟩) n n] W (SA (T.strip.sumF f (Dw ls) 0) W):=by
 have HI:=qh hI;have HT:=qh hT;have HF:=qh hf;have HU:=qh hU;have hp:=qh hk;have hY:=qh hx;have hq:=qh hd;have hH:=qh hG;have hs:=qh hc;clear hI hT hf hU hk hx hd hG hc;generalize hm:T.len=q at *;have HM:=qh hm;clear hm;unfold maxLen at hl hn;go_enter Tryz.func51,Tryz.ntmps51;go_wp2_with fail;go_loopw [5,6] (λav iv wr=>∃(i:Nat) (R:Lt) (a:Int),iv=int i64 i∧av=int i64 a∧i+R.len=q∧0≤a∧a≤4097∧Hid (R.size≤T.size)∧Hid (R.strip.kinds=true∧R.strip.exB=true∧Known ls n (R.strip.uses f))∧Hid (T.strip.sumF f (Dw ls) 0=R.strip.sumF f (Dw ls) a)∧Hid (R.At wr (blk ia) (off ia+i*6))∧Hid (NumAt f wr (R.refsL (blk ia) (off ia+i*6)))∧Hid (Below W.heap.size W wr)) (λ_ iv _=>q+1-(intOf iv).toNat)
 case atStart=>exact ⟨0,T,0,rfl,rfl,by rw [HM.out];omega,by omega,by omega,qh (qn _),qh ⟨hp.out,hY.out,hq.out⟩,qh rfl,by simpa [Hid] using HT.out,by simpa [Hid] using HU.out,qh (Below.refl _ _)⟩
 case round =>
  obtain ⟨i,R,a,rfl,rfl,hZ,hO,h4,hP,ha,hQ,hR,hK,hB⟩:=hrel
  cases R with
  | nil =>
   simp only [Lt.len,Nat.add_zero] at hZ;subst hZ;have hY:=qh (show T.strip.sumF f (Dw ls) 0=a from hQ.out);clear hQ hR hK hP ha;go_wp2_with fail;go_ret;exact ⟨by rw [hY.out];rfl,hB.out⟩
  | cons k nn un ja jc its ma mc ms r =>
   simp only [Lt.len] at hZ;have hi:(i:Int)<(q:Int):=by omega
   have e:=HF.out.resolve_left (by omega);obtain ⟨⟨u,g3,hu⟩,_,k2,k3⟩:=hK.out.mov;obtain ⟨⟨g0,g1,g2,g4,g5⟩,_,⟨i1,i2,i3⟩,hr⟩:=hR.out;obtain ⟨he,hg,hS⟩:=ha.out;obtain ⟨kk,ki1,ki2⟩:=GV he;obtain ⟨x1,x2,x3⟩:D0 k nn=true∧its.strip.exB=true∧r.strip.exB=true:=Its.exB_parts hg;have kn1:Known ls n (its.strip.uses f):=λv hv=>hS v (by simp [Lt.strip,Its.uses,hv])
   have kn2:Known ls n (r.strip.uses f):=λv hv=>hS v (by simp [Lt.strip,Its.uses,hv])
   have kn3:k=4→∃j:Nat,f un=j∧j<n∧0≤gi ls j∧gi ls j≤4097:=λh=>hS _ (by simp [Lt.strip,Its.uses,h])
   have hh:its.size<T.size:=by have:=hP.out;simp only [Lt.size] at this;omega
   have hJ:r.size≤T.size:=by have:=hP.out;simp only [Lt.size] at this;omega
   obtain ⟨W2,h5,gW2,bW2,sW2⟩:=Ag wr #[int i64 k,int i64 nn,sv un,int i64 u,.slice ja its.len jc,.slice ma ms.length mc] 48;have hL:BI wr G ls:=hH.out.below hB.out hH.out.lt;have C:=λ(V:World) (hv:Below W2.heap.size W2 V)=>HI.out its hh ki1 x2 kn1 ja jc V i1 i2 (i3.below (Ad bW2 hv)) (k2.below (Ad bW2 hv)) (hL.below (Ad bW2 hv) hL.lt)
   obtain ⟨sb,hV⟩:∃sb,its.strip.sumF f (Dw ls) 0=sb:=⟨_,rfl⟩;obtain ⟨sb0,sb1⟩:=its.strip.sumF_bound f (Dw ls) 0 x2 kn1.bd (by omega) (by omega);rw [hV] at sb0 sb1;simp only [hV] at C
   have hM:T.strip.sumF f (Dw ls) 0=r.strip.sumF f (Dw ls) (min (a+(if k=1 then 1 else if k=2 then nn*sb else if k=3 then sb else if k=4 then Dw ls (f un) else 0)) 4097):=by
    rw [hQ.out,← hV];rfl
   have HC:=qh C;have hD:=qh hM;have hC:=qh bW2
   have HR:Hid (r.At wr (blk ia) (off ia+(i+1)*6)∧NumAt f wr (r.refsL (blk ia) (off ia+(i+1)*6))):=qh (by
    rw [show off ia+(i+1)*6=off ia+i*6+6 by omega]
    exact ⟨hr,k3⟩)
   have hW:=qh hJ;have hX:=qh (And.intro ki2 (And.intro x3 kn2));have z0:W2.cell? ⟨wr.heap.size,0,none⟩=some (int i64 k):=Aa gW2 0 rfl;have z1:W2.cell? ⟨wr.heap.size,1,none⟩=some (int i64 nn):=Aa gW2 1 rfl;have z3:W2.cell? ⟨wr.heap.size,3,none⟩=some (int i64 u):=Aa gW2 3 rfl;have z4:W2.cell? ⟨wr.heap.size,4,none⟩=some (.slice ja its.len jc):=Aa gW2 4 rfl;have ht:=qh (hL.below bW2 hL.lt);clear C hM gW2 bW2 sW2 i1 i2 i3 hr hh k2 k3 hR hK hP hJ ki1 ki2 ha he hg hS x2 x3 kn1 kn2 hQ hV hL;generalize hw:blk ia=bb at *;generalize hy:off ia=oo at *;subst e;clear hw hy HF;generalize hz:its.len=pl at *;generalize h0:ms.length=ml at *;clear hz h0;rcases kk with rfl|rfl|rfl|rfl
   ·skip
    have hF:Hid (T.strip.sumF f (Dw ls) 0=r.strip.sumF f (Dw ls) (min (a+1) 4097)):=qh (by rw [hD.out];rfl);obtain ⟨mb0,mb1⟩:=JP (a:=a) (x:=1) hO (by omega);have hA:min 4097 (a+1)=min (a+1) 4097:=by omega
    go_wp2_with fail;go_roundw
    case rel=>exact ⟨i+1,r,min (a+1) 4097,by go_num,by first|rfl|(rw [hA])|(simp only [hA]),by omega,mb0,mb1,hW,hX,hF,qh (HR.out.1.below (Ad hC.out (Below.refl _ _))),qh (HR.out.2.below (Ad hC.out (Below.refl _ _))),qh (Ad hB.out (Ad hC.out (Below.refl _ _)))⟩
    case measure=>simp [intOf];omega
   ·skip
    obtain ⟨nb0,nb1⟩:=JQ x1;have pb0:0≤nn*sb:=Int.mul_nonneg (by omega) sb0;have pb1:nn*sb≤64*4097:=Int.mul_le_mul nb1 sb1 sb0 (by omega);have h1:IntKind.i64.wrap (nn*sb)=nn*sb:=IntWalk.i64_in _ (by omega);have hF:Hid (T.strip.sumF f (Dw ls) 0=r.strip.sumF f (Dw ls) (min (a+nn*sb) 4097)):=qh (by rw [hD.out];rfl);obtain ⟨mb0,mb1⟩:=JP (a:=a) (x:=nn*sb) hO (by omega);have hA:min 4097 (a+nn*sb)=min (a+nn*sb) 4097:=by omega
    go_wp2_with fail;refine wp_region_held (S:=λV=>Below W2.heap.size W2 V) (by kernel_rfl) ?_;change wpAnyH _ _ _ _ _ _ _ _ W2.drew;have hE:Below W2.heap.size W2 W2.drew:=(Below.refl _ W2).drew;generalize W2.drew=Wd at *;refine tk 0 _ (.pointer (some ⟨wr.heap.size,1,none⟩)) rfl (λV hb=>by go_simp) hE ?_
    try simp only [Act.put,qA,qB,qC,qD,qE,qF]
    refine tk 1 _ (int i64 nn) rfl (λV hb=>by have q0:=Ac hb z1;go_simp) hE ?_
    try simp only [Act.put,qA,qB,qC,qD,qE,qF]
    refine tk 2 _ (.pointer (some ⟨wr.heap.size,4,none⟩)) rfl (λV hb=>by go_simp) hE ?_
    try simp only [Act.put,qA,qB,qC,qD,qE,qF]
    refine tk 3 _ (.slice ja pl jc) rfl (λV hb=>by have q0:=Ac hb z4;go_simp) hE ?_
    try simp only [Act.put,qA,qB,qC,qD,qE,qF]
    refine tk 4 _ (.slice (some ⟨G,0,none⟩) n n) rfl (λV hb=>by go_simp) hE ?_
    try simp only [Act.put,qA,qB,qC,qD,qE,qF]
    refine tr 5 _ (by kernel_rfl) rfl λK1 hK=>?_
    go_simp;refine (HC.out _ hE).mono ?_;rintro e V ⟨rfl,hv⟩;have hN:=Ad hE hv;refine hK.out _ _ hN (λ_=>?_);clear hK K1
    try simp only [Act.put,qA,qB,qC,qD,qE,qF]
    refine tk 6 _ (int i64 (nn*sb)) rfl (λV hb=>by have q0:=h1;go_simp) hN ?_
    try simp only [Act.put,qA,qB,qC,qD,qE,qF]
    refine tk 7 _ (int i64 (nn*sb)) rfl (λV hb=>by go_simp) hN ?_
    try simp only [Act.put,qA,qB,qC,qD,qE,qF]
    refine wpAnyH_done (by kernel_rfl) ?_ _;have HV:=qh hN;clear hv hN hE z0 z1 z3 z4 g0 g1 g2 g3 g4 g5;generalize h6:nn*sb=pp at *;go_wp2_with fail;go_roundw
    case rel=>exact ⟨i+1,r,min (a+pp) 4097,by go_num,by first|rfl|(rw [hA])|(simp only [hA]),by omega,mb0,mb1,hW,hX,hF,qh (HR.out.1.below (Ad hC.out HV.out)),qh (HR.out.2.below (Ad hC.out HV.out)),qh (Ad hB.out (Ad hC.out HV.out))⟩
    case measure=>simp [intOf];omega
   ·skip
    have hF:Hid (T.strip.sumF f (Dw ls) 0=r.strip.sumF f (Dw ls) (min (a+sb) 4097)):=qh (by rw [hD.out];rfl);obtain ⟨mb0,mb1⟩:=JP (a:=a) (x:=sb) hO (by omega);have hA:min 4097 (a+sb)=min (a+sb) 4097:=by omega
    go_wp2_with fail;refine (HC.out _ (Below.refl _ _)).mono ?_;rintro e V ⟨rfl,hv⟩;have HV:=qh hv;clear hv z0 z1 z3 z4 g0 g1 g2 g3 g4 g5;go_wp2_with fail;go_roundw
    case rel=>exact ⟨i+1,r,min (a+sb) 4097,by go_num,by first|rfl|(rw [hA])|(simp only [hA]),by omega,mb0,mb1,hW,hX,hF,qh (HR.out.1.below (Ad hC.out HV.out)),qh (HR.out.2.below (Ad hC.out HV.out)),qh (Ad hB.out (Ad hC.out HV.out))⟩
    case measure=>simp [intOf];omega
   ·skip
    obtain ⟨j,hj,h2,jb0,jb1⟩:=kn3 rfl;have ho:=hu rfl;rw [hj] at ho;subst ho;have h3:(j:Int)<(n:Int):=by omega
    have h7:(0:Int)≤(j:Int):=by omega
    have zr:=ht.out.cell (j:=j) (by rw [hs.out];exact h2);have hF:Hid (T.strip.sumF f (Dw ls) 0=r.strip.sumF f (Dw ls) (min (a+gi ls j) 4097)):=qh (by rw [hD.out,if_neg (by decide),if_neg (by decide),if_neg (by decide),if_pos rfl,hj];rfl);obtain ⟨mb0,mb1⟩:=JP (a:=a) (x:=gi ls j) hO (by omega);have hA:min 4097 (a+gi ls j)=min (a+gi ls j) 4097:=by omega
    clear hu hj kn3 hD;generalize h8:gi ls j=gg at *;go_wp2_with fail;go_roundw
    case rel=>exact ⟨i+1,r,min (a+gg) 4097,by go_num,by first|rfl|(rw [hA])|(simp only [hA]),by omega,mb0,mb1,hW,hX,hF,qh (HR.out.1.below (Ad hC.out (Below.refl _ _))),qh (HR.out.2.below (Ad hC.out (Below.refl _ _))),qh (Ad hB.out (Ad hC.out (Below.refl _ _)))⟩
    case measure=>simp [intOf];omega
theorem Li(f:Nm→Int)(G n:Nat)(ls:List Int)(hn:n≤maxLen)(hA:ls.length=n):∀(s:Nat) (T:Lt),T.size≤s→T.strip.kinds=true→T.strip.exB=true→Known ls n (T.strip.uses f)→∀(ia:Option Addr) (ic:Nat) (W:World),(T.len=0∨ia=some ⟨blk ia,off ia,none⟩)→T.len≤maxLen→T.At W (blk ia) (off ia)→NumAt f W (T.refsL (blk ia) (off ia))→BI W G ls→Calls Tryz.prog 51 #[.slice ia T.len ic,.slice (some ⟨G,0,none⟩) n n] W (SA (T.strip.sumF f (Dw ls) 0) W):=by
 intro s
 induction s with
 | zero=>intro T hs;exact FB f G n ls hn hA T (λT' hB=>absurd hB (by omega))
 | succ s ih=>intro T hs;exact FB f G n ls hn hA T (λT' hB=>ih T' (by omega))
def DV(row:Nat→Bool)(ls:List Int)(n:Nat):Bool:=(List.range n).all λk=>!(row k&&decide (gi ls k<0))
theorem EE{row:Nat→Bool}{ls:List Int}{n:Nat}:DV row ls n=true↔∀k,k<n→row k=true→¬gi ls k<0:=by
 unfold DV;rw [List.all_eq_true]
 constructor
 ·intro h k hk hr hA
  have:=h k (by simpa using hk);rw [hr,decide_eq_true hA] at this;cases this
 ·intro h k hk
  have hB:k<n:=by simpa using hk
  cases e:row k with
  | false=>rfl
  | true=>rw [decide_eq_false (h k hB e)];rfl
theorem Q9{row:Nat→Bool}{ls:List Int}{n k:Nat}(hk:k<n)(h1:row k=true)(h2:gi ls k<0):DV row ls n=false:=by
 cases e:DV row ls n with
 | false=>rfl
 | true=>exact absurd h2 (EE.1 e k hk h1)
theorem Ny(R G n:Nat)(row:Nat→Bool)(ls:List Int)(W:World)(hR:∀k,k<n→W.cell? ⟨R,k,none⟩=some (.bool (row k)))(hG:BI W G ls)(hl:ls.length=n)(hn:n≤999):Calls Tryz.prog 50 #[.slice (some ⟨R,0,none⟩) n n,.slice (some ⟨G,0,none⟩) n n] W λe w'=>e=.returned (.bool (DV row ls n))∧W=w':=by
 obtain ⟨rb,hA⟩:∃rb,DV row ls n=rb:=⟨_,rfl⟩;rw [hA];have hD:=qh hA;have HR:=qh hR;have HG:=qh hG;have HL:=qh hl;clear hA hR hG hl;go_enter Tryz.func50,Tryz.ntmps50;go_wp2_with fail;go_loopw [5] (λkv wr=>∃k:Nat,kv=int i64 k∧k≤n∧Hid (∀k',k'<k→row k'=true→¬gi ls k'<0)∧wr=W) (λkv _=>n+1-(intOf kv).toNat)
 case atStart=>exact ⟨0,rfl,Nat.zero_le _,qh (λk' h=>absurd h (Nat.not_lt_zero _)),rfl⟩
 case round =>
  obtain ⟨k,rfl,hF,hB,rfl⟩:=hrel;by_cases hC:k<n
  ·have hi:(k:Int)<(n:Int):=by omega
   have y1:=HR.out k hC;have y2:=HG.out.cell (j:=k) (by rw [HL.out];exact hC);rcases EP (row k) with u0|u0
   ·rw [u0] at y1
    have HN:Hid (∀k',k'<k+1→row k'=true→¬gi ls k'<0):=qh (λk' hE hr=>by
     by_cases e:k'=k
     ·subst e;rw [u0] at hr;cases hr
     ·exact hB.out k' (by omega) hr)
    clear u0;go_wp2_with fail;go_roundw
    case rel=>exact ⟨k+1,by go_num,by omega,HN,trivial⟩
    case measure=>simp [intOf];omega
   ·rw [u0] at y1
    rcases Di (gi ls k<0) with u1|u1
    ·have HF:Hid (rb=false):=qh (by rw [← hD.out];exact Q9 hC u0 u1)
     clear u0;go_wp2_with fail;go_ret;exact ⟨by rw [HF.out];rfl,rfl⟩
    ·have HN:Hid (∀k',k'<k+1→row k'=true→¬gi ls k'<0):=qh (λk' hE hr=>by
      by_cases e:k'=k
      ·subst e;exact u1
      ·exact hB.out k' (by omega) hr)
     clear u0;go_wp2_with fail;go_roundw
     case rel=>exact ⟨k+1,by go_num,by omega,HN,trivial⟩
     case measure=>simp [intOf];omega
  ·have:k=n:=by omega
   subst this;have hz:¬(k:Int)<(k:Int):=by omega
   have HF:Hid (rb=true):=qh (by rw [← hD.out];exact EE.2 hB.out);go_wp2_with fail;go_ret;exact ⟨by rw [HF.out];rfl,rfl⟩
structure KnL(n:Nat)(rk:Nat→Nat)(len:Int→Int)(r i:Nat)(ls:List Int):Prop where
 len_:ls.length=n
 val:∀k:Nat,k<n→gi ls k=-1∨gi ls k=len k
 low:∀k:Nat,k<n→rk k<r→gi ls k=len k
 here:∀k:Nat,k<n→k<i→rk k≤r→gi ls k=len k
theorem KnL.round{n:Nat}{rk:Nat→Nat}{len:Int→Int}{r:Nat}{ls:List Int}(h:KnL n rk len r n ls):KnL n rk len (r+1) 0 ls :=
 ⟨h.len_,h.val,λk hk hr=>h.here k hk hk (by omega),λ_ _ h=>absurd h (Nat.not_lt_zero _)⟩
theorem KnL.keep{n:Nat}{rk:Nat→Nat}{len:Int→Int}{r i:Nat}{ls:List Int}(h:KnL n rk len r i ls)(hi:rk i≤r→gi ls i=len i):KnL n rk len r (i+1) ls :=
 ⟨h.len_,h.val,h.low,λk hk hA hr=>by
  by_cases e:k=i
  ·subst e;exact hi hr
  ·exact h.here k hk (by omega) hr⟩
theorem KnL.put{n:Nat}{rk:Nat→Nat}{len:Int→Int}{r i:Nat}{ls:List Int}(h:KnL n rk len r i ls)(hi:i<n):KnL n rk len r (i+1) (ls.set i (len i)):=by
 have hg:∀k:Nat,gi (ls.set i (len i)) k=if k=i then len i else gi ls k:=λk=>JM _ _ _ _ (by rw [h.len_];exact hi)
 refine ⟨by rw [List.length_set];exact h.len_,λk hk=>?_,λk hk hr=>?_,λk hk hA hr=>?_⟩
 ·rw [hg];split
  ·rename_i e;subst e;exact Or.inr rfl
  ·exact h.val k hk
 ·rw [hg];split
  ·rename_i e;subst e;rfl
  ·exact h.low k hk hr
 ·rw [hg];split
  ·rename_i e;subst e;rfl
  ·exact h.here k hk (by omega) hr
end
section
open Go
section
variable {kss:List (List Int)} {i:Int}
theorem J8{u:Int}{d:Nat}:∀{k:Nat},AN kss i k u=some (d:Int)→d≤k→AN kss i d u=some (d:Int)
 | 0,h,_=>by cases h
 | k+1,h,hk=>by
  rcases Nat.lt_or_ge d (k+1) with h3|h3
  ·rcases E5 h with h4|⟨_,h4,_⟩
   ·exact J8 h4 (by omega)
   ·omega
  ·rw [show d=k+1 by omega] at h ⊢;exact h
theorem Pb{x:Int}{m:Nat}(h:AN kss i kss.length x=some ((m+1:Nat):Int)):(0≤x∧x<kss.length)∧∃u∈kss.getD x.toNat [],(m=0∧u=i)∨(1≤m∧AN kss i kss.length u=some (m:Int)):=by
 have hA:=MA h;refine ⟨hA,?_⟩;obtain ⟨hB,hC⟩:=D6 h;have hl:=J8 h (by omega);rcases E5 hl with h2|⟨_,_,_,_,h2⟩
 ·have:=D6 h2;omega
 ·unfold CY at h2
  rw [List.any_eq_true] at h2;obtain ⟨u,hu,h3⟩:=h2;refine ⟨u,hu,?_⟩;unfold DR at h3;rw [Bool.or_eq_true,Bool.and_eq_true,Bool.and_eq_true] at h3;rcases h3 with ⟨h4,h5⟩|⟨h4,h5⟩
  ·have:=of_decide_eq_true h4
   exact Or.inl ⟨by omega,of_decide_eq_true h5⟩
  ·have:=of_decide_eq_true h4
   have h6:=of_decide_eq_true h5
   right
   refine ⟨by omega,?_⟩;have:AN kss i m u=some (m:Int):=by rw [h6];congr 1;omega
   exact GQ (by omega) this
end
end
section
open Go Go.RowKit
theorem UL:Ab 10 AP=.seq elem29n10 (Ab 11 AP):=rfl
theorem SK(E B:Nat)(W:World)(s:Ls)(ns:List Int)(w0:World)(hE:W.heap[E]?=some (.cells #[int i64 0] 33 (0,0)))(hA:w0.heap.size≤E)(hb:Below w0.heap.size w0 W)(h0:AE s ns=0):
  (Ab 11 AP).wp Tryz.prog (bodyPostD Tryz.prog Tryz.f7 (Eo s ns w0)) { tmps:=#[e0,.pointer (some ⟨B,0,none⟩),.pointer (some ⟨E,0,none⟩),e3,e4,e5,e6,e7,e8,e9,ea,eb,ec,ed,ee,ef,eg,eh,ei,ej,ek,el,em,en,eo,ep,eq,er,es,et,eu,ev,ew,ex,ey,ez,eA,eB,eC,eD,eE,eF,eG,eH,eI,eJ,eK,eL,eM,eN,eO,eP,eQ,eR,eS,eT,eU,eV,eW,eX,eY,eZ,aa,ab,ac,ae,af,ag,ah,ai,aj,ak,al,am,an,ao,ap,aq,ar,au,av,aw,ax,ay,az,aA,aB,aC,aD,aE,aF,aG,aH,aI,aJ,aK,aL,aM,aN,aO,aP,aQ,aR,aS,aT,aU,aV,aW,aX,aY,aZ,ba,bb,bc,bd,be,bf,bg,bh,bi,bj,bk],defers:=[Ee E] } W:=by
 have c0:=cell_of_one hE;have f0:=free_of_one hE;have HE:=qh hE;have HB:=qh hb;have H0:=qh h0;clear hE hb h0
 conv=>arg 2;whnf
 go_wp2_with fail;refine Q8 _ E _ _ (int i64 0) rfl (cell_of_one (one_setCell HE.out)) ⟨by rw [H0.out],HB.out.setCell (p:=⟨E,0,none⟩) hA _⟩
theorem Dv(E:Nat)(s:Ls)(ns:List Int)(w0 w:World)(hA:w0.heap.size≤E)(hb:Below w0.heap.size w0 w)(hE:w.heap[E]?=some (.cells #[int i64 0] 33 (0,0)))(h0:AE s ns=180)(t:Array Value)(V:World)(ht:t.getD 2 undef=.pointer (some ⟨E,0,none⟩))(hV:Below w.heap.size w V) :
  bodyPostD Tryz.prog Tryz.f7 (Eo s ns w0) (.panic BU) { tmps:=t,defers:=[Ee E] } V :=
 Nx t E _ V _ ht (Ah hV hE) λw' hw=>⟨by rw [h0],(Ad hb hV).trans (hw.mono hA)⟩
theorem Ut(s:Ls)(ns:List Int)(B E:Nat)(w0 w W:World)(hc:BV s.strip ns=0)(hs:RgS s (AA s.strip) B w)(hH:NumAt (AA s.strip) w (Al (blk s.da) (off s.da) s.dances))(hE:w.heap[E]?=some (.cells #[int i64 0] 33 (0,0)))(hA:w0.heap.size≤E)(hF:Below w0.heap.size w0 w)(hb:Below w.heap.size w W)(hx:s.phrases.all (λp=>p.its.strip.exB)=true)(hr:Bq (s.nexts (AA s.strip))=[])(hB:1≤s.bars∧s.bars≤4096)(hC:AE s ns=if s.dances.all (Ch s (AA s.strip) (BF s.itsL (AA s.strip)))=true then 0 else 180):
  (Ab 9 AP).wp Tryz.prog (bodyPostD Tryz.prog Tryz.f7 (Eo s ns w0)) { tmps:=#[e0,.pointer (some ⟨B,0,none⟩),.pointer (some ⟨E,0,none⟩),e3,e4,e5,e6,e7,e8,e9,ea,eb,ec,ed,ee,ef,eg,eh,ei,ej,ek,el,em,en,eo,ep,eq,er,es,et,eu,ev,ew,ex,ey,ez,eA,eB,eC,eD,eE,eF,eG,eH,eI,eJ,eK,eL,eM,eN,eO,eP,eQ,eR,eS,eT,eU,eV,eW,eX,eY,eZ,aa,ab,ac,ae,af,ag,ah,ai,aj,ak,al,am,an,ao,ap,aq,ar,au,av,aw,ax,ay,az,aA,aB,aC,aD,aE,aF,aG,aH,aI,aJ,aK,aL,aM,aN,aO,aP,aQ,aR,aS,aT,aU,aV,aW,aX,aY,aZ,ba,bb,bc,bd,be,bf,bg,bh,bi,bj,bk],defers:=[Ee E] } W:=by
 have hN:=C9 hc;have hG:=LM hx hr (FE hc)
 have hI:∀d∈s.dances,∀(B7 KB M SB PB:Nat) (V:World),LenW V s (AA s.strip) B7 KB M SB PB (BF s.itsL (AA s.strip))→Calls Tryz.prog 44 #[int i64 (AA s.strip d.pn),.pointer (some ⟨KB,0,none⟩),.pointer (some ⟨SB,0,none⟩),.pointer (some ⟨B7,0,none⟩)] V (JH s (AA s.strip) B7 KB M SB PB (BF s.itsL (AA s.strip)) (BF s.itsL (AA s.strip) (AA s.strip d.pn)) V):=λd hd B7 KB M SB PB V hV=>by
  obtain ⟨i,hi,hD⟩:=FM hc hd;rw [hi];exact MK s (AA s.strip) B7 KB M SB PB _ _ hG (by omega) _ i (qn _) hD V hV
 have hJ:∀d∈s.dances,0≤BF s.itsL (AA s.strip) (AA s.strip d.pn)∧BF s.itsL (AA s.strip) (AA s.strip d.pn)≤4097:=λd hd=>by
  obtain ⟨i,hi,hD⟩:=FM hc hd;rw [hi];exact hG.bound i hD
 rw [RY];refine Ae (λK hK=>?_);have HK:=qh hK;clear hK;refine Um s (AA s.strip) (BF s.itsL (AA s.strip)) B E w W hs hb [Ee E] _ ?_;intro B7 KB M SB PB x0 x3 x4 x5 x6 x8 x9 bl bm bn bo bp bq br bs bt bu bv bw bx bz bA bB bC bD bE bF bG bH bI bJ bK bL bM bN bO bP bQ bR bS bT bU bV bW bX bY bZ ca cb cc cd ce cf cg ch ci cj ck cm cn co cp cq cr cs ct cu cv cw cx cy cz cA cB cC cD cE cF cG cH cI cJ cK cL cM cN cO cP cQ cR cS cT cU cV cW cX cY cZ db dc dd de df dg dh di dj dk dl dm dn dp dq dr ds dt du dv dw V hL hM hV;refine HK.out _ _ ?_;clear HK K;rw [UL];refine Ae (λK hK=>?_);have HK:=qh hK;clear hK;refine SJ s (AA s.strip) (BF s.itsL (AA s.strip)) B E B7 KB M SB PB w V hs hV hL hM hH hB (λd hd V hV=>hI d hd B7 KB M SB PB V hV) hJ (by omega) [Ee E] _ (λhd x0 x3 x4 x5 x6 x7 x8 x9 bl bm bn bo bp bq br bs bt bu bv bw bx bz bA bB bC bD bE bF bG bH bI bJ bK bL bM bN bO bP bQ bR bS bT bU bV bW bX bY bZ ca cb cc cd ce cf cg ch ci cj ck cm cn co cp cq cr cs ct cu cv cw cx cy cz cA cB cC cD cE cF cG cH cI cJ cK cL cM cN cO cP cQ cR cS cT cU cV cW cX cY cZ db dc dd de df dg dh di dj dk dl dm dn dp dq dr ds dt du dv dw V hV=>?_) (λhd t V ht hV=>?_)
 ·refine HK.out _ _ ?_
  exact SK E B V s ns w0 (Ah hV hE) hA (Ad hF hV) (by rw [hC,if_pos hd])
 ·exact Dv E s ns w0 w hA hF hE (by rw [hC,if_neg (by rw [hd];simp)]) t V ht hV
theorem Us(s:Ls)(ns:List Int)(B E:Nat)(w0 w W:World)(hc:BV s.strip ns=0)(hs:RgS s (AA s.strip) B w)(hF:NumAt (AA s.strip) w (Al (blk s.da) (off s.da) s.dances))(hE:w.heap[E]?=some (.cells #[int i64 0] 33 (0,0)))(hA:w0.heap.size≤E)(hD:Below w0.heap.size w0 w)(hb:Below w.heap.size w W)(hx:s.phrases.all (λp=>p.its.strip.exB)=true)(hB:1≤s.bars∧s.bars≤4096)(hC:AE s ns=if (decide (Bq (s.nexts (AA s.strip))=[])&&s.dances.all (Ch s (AA s.strip) (BF s.itsL (AA s.strip))))=true then 0 else 180):
  (Ab 8 AP).wp Tryz.prog (bodyPostD Tryz.prog Tryz.f7 (Eo s ns w0)) { tmps:=#[e0,.pointer (some ⟨B,0,none⟩),.pointer (some ⟨E,0,none⟩),e3,e4,e5,e6,e7,e8,e9,ea,eb,ec,ed,ee,ef,eg,eh,ei,ej,ek,el,em,en,eo,ep,eq,er,es,et,eu,ev,ew,ex,ey,ez,eA,eB,eC,eD,eE,eF,eG,eH,eI,eJ,eK,eL,eM,eN,eO,eP,eQ,eR,eS,eT,eU,eV,eW,eX,eY,eZ,aa,ab,ac,ae,af,ag,ah,ai,aj,ak,al,am,an,ao,ap,aq,ar,au,av,aw,ax,ay,az,aA,aB,aC,aD,aE,aF,aG,aH,aI,aJ,aK,aL,aM,aN,aO,aP,aQ,aR,aS,aT,aU,aV,aW,aX,aY,aZ,ba,bb,bc,bd,be,bf,bg,bh,bi,bj,bk],defers:=[Ee E] } W:=by
 rw [RX];refine Ae (λK hK=>?_);have HK:=qh hK;clear hK;refine Ul s (AA s.strip) B E w W hs hb (by have:=C9 hc;omega) [Ee E] _ (λhd x0 x3 x4 x5 x6 x7 x8 x9 x10 x11 x12 x13 x14 x15 x16 x17 x18 x19 x20 x21 x22 x23 x24 x25 x26 x27 x28 x29 x30 x31 x32 x33 x34 x35 x36 x37 x38 x39 x40 x41 x42 x43 x44 x45 x46 x47 x48 x49 x50 x51 x52 x53 x54 x55 x56 x57 x58 x59 x60 x61 x62 x63 x64 x65 x66 x67 x68 x69 x70 x71 x72 x73 x74 x75 x76 x77 x78 x79 x80 x81 x82 x83 x84 x85 x86 x87 x88 x89 x90 x91 x92 x93 x94 x95 x96 x97 x98 x99 x100 x101 x102 x103 x104 x105 x106 x107 x108 x109 x110 x111 x112 x113 x114 x115 x116 x117 x118 x119 x120 x121 V hV=>?_) (λhd t V ht hV=>?_)
 ·refine HK.out _ _ ?_
  exact Ut s ns B E w0 w V hc hs hF hE hA hD hV hx (of_decide_eq_true hd) hB (by rw [hC,hd,Bool.true_and])
 ·exact Dv E s ns w0 w hA hD hE (by rw [hC,hd,Bool.false_and,if_neg (by simp)]) t V ht hV
theorem Ur(s:Ls)(ns:List Int)(B E:Nat)(w0 w W:World)(hc:BV s.strip ns=0)(hs:RgS s (AA s.strip) B w)(hF:NumAt (AA s.strip) w (Al (blk s.da) (off s.da) s.dances))(hE:w.heap[E]?=some (.cells #[int i64 0] 33 (0,0)))(hA:w0.heap.size≤E)(hD:Below w0.heap.size w0 w)(hb:Below w.heap.size w W)(hB:1≤s.bars∧s.bars≤4096)(hC:AE s ns=if (s.phrases.all (λp=>p.its.strip.exB)&&(decide (Bq (s.nexts (AA s.strip))=[])&&s.dances.all (Ch s (AA s.strip) (BF s.itsL (AA s.strip)))))=true then 0 else 180):
  (Ab 7 AP).wp Tryz.prog (bodyPostD Tryz.prog Tryz.f7 (Eo s ns w0)) { tmps:=#[e0,.pointer (some ⟨B,0,none⟩),.pointer (some ⟨E,0,none⟩),e3,e4,e5,e6,e7,e8,e9,ea,eb,ec,ed,ee,ef,eg,eh,ei,ej,ek,el,em,en,eo,ep,eq,er,es,et,eu,ev,ew,ex,ey,ez,eA,eB,eC,eD,eE,eF,eG,eH,eI,eJ,eK,eL,eM,eN,eO,eP,eQ,eR,eS,eT,eU,eV,eW,eX,eY,eZ,aa,ab,ac,ae,af,ag,ah,ai,aj,ak,al,am,an,ao,ap,aq,ar,au,av,aw,ax,ay,az,aA,aB,aC,aD,aE,aF,aG,aH,aI,aJ,aK,aL,aM,aN,aO,aP,aQ,aR,aS,aT,aU,aV,aW,aX,aY,aZ,ba,bb,bc,bd,be,bf,bg,bh,bi,bj,bk],defers:=[Ee E] } W:=by
 rw [RW];refine Ae (λK hK=>?_);have HK:=qh hK;clear hK;refine Uk s (AA s.strip) B E w W hs hb (by have:=C9 hc;omega) [Ee E] _ (λhd x0 x3 x4 x5 x6 x7 x8 x9 x10 x11 x12 x13 x14 x15 x16 x17 x18 x19 x20 x21 x22 x23 x24 x25 x26 x27 x28 x29 x30 x31 x32 x33 x34 x35 x36 x37 x38 x39 x40 x41 x42 x43 x44 x45 x46 x47 x48 x49 x50 x51 x52 x53 x54 x55 x56 x57 x58 x59 x60 x61 x62 x63 x64 x65 x66 x67 x68 x69 x70 x71 x72 x73 x74 x75 x76 x77 x78 x79 x80 x81 x82 x83 x84 x85 x86 x87 x88 x89 x90 x91 x92 x93 x94 x95 x96 x97 x98 x99 x100 x101 x102 x103 x104 x105 x106 x107 x108 x109 x110 x111 x112 x113 x114 x115 x116 x117 x118 x119 x120 x121 V hV=>?_) (λhd t V ht hV=>?_)
 ·refine HK.out _ _ ?_
  exact Us s ns B E w0 w V hc hs hF hE hA hD hV hd hB (by rw [hC,hd,Bool.true_and])
 ·exact Dv E s ns w0 w hA hD hE (by rw [hC,hd,Bool.false_and,if_neg (by simp)]) t V ht hV
theorem Uq(s:Ls)(ns:List Int)(B E:Nat)(w0 w W:World)(hc:BV s.strip ns=0)(hs:RgS s (AA s.strip) B w)(hD:NumAt (AA s.strip) w (Al (blk s.da) (off s.da) s.dances))(hE:w.heap[E]?=some (.cells #[int i64 0] 33 (0,0)))(hA:w0.heap.size≤E)(hC:Below w0.heap.size w0 w)(hb:Below w.heap.size w W)(hB:AE s ns=if (decide (CW ⟨s.bars,s.tempos,s.pauses,s.spans⟩=0)&&(s.phrases.all (λp=>p.its.strip.exB)&&(decide (Bq (s.nexts (AA s.strip))=[])&&s.dances.all (Ch s (AA s.strip) (BF s.itsL (AA s.strip))))))=true then 0 else 180):
  (Ab 6 AP).wp Tryz.prog (bodyPostD Tryz.prog Tryz.f7 (Eo s ns w0)) { tmps:=#[e0,.pointer (some ⟨B,0,none⟩),.pointer (some ⟨E,0,none⟩),e3,e4,e5,e6,e7,e8,e9,ea,eb,ec,ed,ee,ef,eg,eh,ei,ej,ek,el,em,en,eo,ep,eq,er,es,et,eu,ev,ew,ex,ey,ez,eA,eB,eC,eD,eE,eF,eG,eH,eI,eJ,eK,eL,eM,eN,eO,eP,eQ,eR,eS,eT,eU,eV,eW,eX,eY,eZ,aa,ab,ac,ae,af,ag,ah,ai,aj,ak,al,am,an,ao,ap,aq,ar,au,av,aw,ax,ay,az,aA,aB,aC,aD,aE,aF,aG,aH,aI,aJ,aK,aL,aM,aN,aO,aP,aQ,aR,aS,aT,aU,aV,aW,aX,aY,aZ,ba,bb,bc,bd,be,bf,bg,bh,bi,bj,bk],defers:=[Ee E] } W:=by
 rw [RV];refine Ae (λK hK=>?_);have HK:=qh hK;clear hK;refine Uj s (AA s.strip) B E w W hs hb [Ee E] _ (λhd x0 x3 x4 x5 x6 x7 x8 x9 x10 x11 x12 x13 x14 x15 x16 x17 x18 x19 x20 x21 x22 x23 x24 x25 x26 x27 x28 x29 x30 x31 x32 x33 x34 x35 x36 x37 x38 x39 x40 x41 x42 x43 x44 x45 x46 x47 x48 x49 x50 x51 x52 x53 x54 x55 x56 x57 x58 x59 x60 x61 x62 x63 x64 x65 x66 x67 x68 x69 x70 x71 x72 x73 x74 x75 x76 x77 x78 x79 x80 x81 x82 x83 x84 x85 x86 x87 x88 x89 x90 x91 x92 x93 x94 x95 x96 x97 x98 x99 x100 x101 x102 x103 x104 x105 x106 x107 x108 x109 x110 x111 x112 x113 x114 x115 x116 x117 x118 x119 x120 x121 V hV=>?_) (λhd t V ht hV=>?_)
 ·refine HK.out _ _ ?_
  exact Ur s ns B E w0 w V hc hs hD hE hA hC hV (Kr (of_decide_eq_true hd)) (by rw [hB,hd,Bool.true_and])
 ·exact Dv E s ns w0 w hA hC hE (by rw [hB,hd,Bool.false_and,if_neg (by simp)]) t V ht hV
theorem Up(s:Ls)(ns:List Int)(B E:Nat)(w0 w W:World)(hc:BV s.strip ns=0)(hs:RgS s (AA s.strip) B w)(hD:NumAt (AA s.strip) w (Al (blk s.da) (off s.da) s.dances))(hE:w.heap[E]?=some (.cells #[int i64 0] 33 (0,0)))(hA:w0.heap.size≤E)(hC:Below w0.heap.size w0 w)(hb:Below w.heap.size w W)(hB:AE s ns=if (s.roles.all (BK s)&&(decide (CW ⟨s.bars,s.tempos,s.pauses,s.spans⟩=0)&&(s.phrases.all (λp=>p.its.strip.exB)&&(decide (Bq (s.nexts (AA s.strip))=[])&&s.dances.all (Ch s (AA s.strip) (BF s.itsL (AA s.strip)))))))=true then 0 else 180):
  (Ab 5 AP).wp Tryz.prog (bodyPostD Tryz.prog Tryz.f7 (Eo s ns w0)) { tmps:=#[e0,.pointer (some ⟨B,0,none⟩),.pointer (some ⟨E,0,none⟩),e3,e4,e5,e6,e7,e8,e9,ea,eb,ec,ed,ee,ef,eg,eh,ei,ej,ek,el,em,en,eo,ep,eq,er,es,et,eu,ev,ew,ex,ey,ez,eA,eB,eC,eD,eE,eF,eG,eH,eI,eJ,eK,eL,eM,eN,eO,eP,eQ,eR,eS,eT,eU,eV,eW,eX,eY,eZ,aa,ab,ac,ae,af,ag,ah,ai,aj,ak,al,am,an,ao,ap,aq,ar,au,av,aw,ax,ay,az,aA,aB,aC,aD,aE,aF,aG,aH,aI,aJ,aK,aL,aM,aN,aO,aP,aQ,aR,aS,aT,aU,aV,aW,aX,aY,aZ,ba,bb,bc,bd,be,bf,bg,bh,bi,bj,bk],defers:=[Ee E] } W:=by
 rw [RU];refine Ae (λK hK=>?_);have HK:=qh hK;clear hK;refine Ui s (AA s.strip) B E w W hs hb (by have:=C9 hc;omega) [Ee E] _ (λhd x0 x3 x4 x5 x6 x7 x8 x9 x10 x11 x12 x13 x14 x15 x16 x17 x18 x19 x20 x21 x22 x23 x24 x25 x26 x27 x28 x29 x30 x31 x32 x33 x34 x35 x36 x37 x38 x39 x40 x41 x42 x43 x44 x45 x46 x47 x48 x49 x50 x51 x52 x53 x54 x55 x56 x57 x58 x59 x60 x61 x62 x63 x64 x65 x66 x67 x68 x69 x70 x71 x72 x73 x74 x75 x76 x77 x78 x79 x80 x81 x82 x83 x84 x85 x86 x87 x88 x89 x90 x91 x92 x93 x94 x95 x96 x97 x98 x99 x100 x101 x102 x103 x104 x105 x106 x107 x108 x109 x110 x111 x112 x113 x114 x115 x116 x117 x118 x119 x120 x121 V hV=>?_) (λhd t V ht hV=>?_)
 ·refine HK.out _ _ ?_
  exact Uq s ns B E w0 w V hc hs hD hE hA hC hV (by rw [hB,hd,Bool.true_and])
 ·exact Dv E s ns w0 w hA hC hE (by rw [hB,hd,Bool.false_and,if_neg (by simp)]) t V ht hV
theorem Uo(s:Ls)(ns:List Int)(B E:Nat)(w0 w W:World)(hc:BV s.strip ns=0)(hs:RgS s (AA s.strip) B w)(hD:NumAt (AA s.strip) w (Al (blk s.da) (off s.da) s.dances))(hE:w.heap[E]?=some (.cells #[int i64 0] 33 (0,0)))(hA:w0.heap.size≤E)(hC:Below w0.heap.size w0 w)(hb:Below w.heap.size w W)(hB:AE s ns=if ((inB s.t0 1 127&&inB s.t1 0 s.t0)&&(s.roles.all (BK s)&&(decide (CW ⟨s.bars,s.tempos,s.pauses,s.spans⟩=0)&&(s.phrases.all (λp=>p.its.strip.exB)&&(decide (Bq (s.nexts (AA s.strip))=[])&&s.dances.all (Ch s (AA s.strip) (BF s.itsL (AA s.strip))))))))=true then 0 else 180):
  (Ab 4 AP).wp Tryz.prog (bodyPostD Tryz.prog Tryz.f7 (Eo s ns w0)) { tmps:=#[e0,.pointer (some ⟨B,0,none⟩),.pointer (some ⟨E,0,none⟩),e3,e4,e5,e6,e7,e8,e9,ea,eb,ec,ed,ee,ef,eg,eh,ei,ej,ek,el,em,en,eo,ep,eq,er,es,et,eu,ev,ew,ex,ey,ez,eA,eB,eC,eD,eE,eF,eG,eH,eI,eJ,eK,eL,eM,eN,eO,eP,eQ,eR,eS,eT,eU,eV,eW,eX,eY,eZ,aa,ab,ac,ae,af,ag,ah,ai,aj,ak,al,am,an,ao,ap,aq,ar,au,av,aw,ax,ay,az,aA,aB,aC,aD,aE,aF,aG,aH,aI,aJ,aK,aL,aM,aN,aO,aP,aQ,aR,aS,aT,aU,aV,aW,aX,aY,aZ,ba,bb,bc,bd,be,bf,bg,bh,bi,bj,bk],defers:=[Ee E] } W:=by
 rw [RT];refine Ae (λK hK=>?_);have HK:=qh hK;clear hK;refine Uh s (AA s.strip) B E w W hs hb [Ee E] _ (λhd x0 x3 x4 x5 x6 x7 x8 x9 x10 x11 x12 x13 x14 x15 x16 x17 x18 x19 x20 x21 x22 x23 x24 x25 x26 x27 x28 x29 x30 x31 x32 x33 x34 x35 x36 x37 x38 x39 x40 x41 x42 x43 x44 x45 x46 x47 x48 x49 x50 x51 x52 x53 x54 x55 x56 x57 x58 x59 x60 x61 x62 x63 x64 x65 x66 x67 x68 x69 x70 x71 x72 x73 x74 x75 x76 x77 x78 x79 x80 x81 x82 x83 x84 x85 x86 x87 x88 x89 x90 x91 x92 x93 x94 x95 x96 x97 x98 x99 x100 x101 x102 x103 x104 x105 x106 x107 x108 x109 x110 x111 x112 x113 x114 x115 x116 x117 x118 x119 x120 x121 V hV=>?_) (λhd t V ht hV=>?_)
 ·refine HK.out _ _ ?_
  exact Up s ns B E w0 w V hc hs hD hE hA hC hV (by rw [hB,hd,Bool.true_and])
 ·exact Dv E s ns w0 w hA hC hE (by rw [hB,hd,Bool.false_and,if_neg (by simp)]) t V ht hV
theorem Un(s:Ls)(ns:List Int)(B E:Nat)(w0 w W:World)(hc:BV s.strip ns=0)(hs:RgS s (AA s.strip) B w)(hD:NumAt (AA s.strip) w (Al (blk s.da) (off s.da) s.dances))(hE:w.heap[E]?=some (.cells #[int i64 0] 33 (0,0)))(hA:w0.heap.size≤E)(hC:Below w0.heap.size w0 w)(hb:Below w.heap.size w W)(hB:AE s ns=if ((inB s.wd 1 1000&&inB s.dp 1 1000)&&((inB s.t0 1 127&&inB s.t1 0 s.t0)&&(s.roles.all (BK s)&&(decide (CW ⟨s.bars,s.tempos,s.pauses,s.spans⟩=0)&&(s.phrases.all (λp=>p.its.strip.exB)&&(decide (Bq (s.nexts (AA s.strip))=[])&&s.dances.all (Ch s (AA s.strip) (BF s.itsL (AA s.strip)))))))))=true then 0 else 180):
  (Ab 3 AP).wp Tryz.prog (bodyPostD Tryz.prog Tryz.f7 (Eo s ns w0)) { tmps:=#[e0,.pointer (some ⟨B,0,none⟩),.pointer (some ⟨E,0,none⟩),e3,e4,e5,e6,e7,e8,e9,ea,eb,ec,ed,ee,ef,eg,eh,ei,ej,ek,el,em,en,eo,ep,eq,er,es,et,eu,ev,ew,ex,ey,ez,eA,eB,eC,eD,eE,eF,eG,eH,eI,eJ,eK,eL,eM,eN,eO,eP,eQ,eR,eS,eT,eU,eV,eW,eX,eY,eZ,aa,ab,ac,ae,af,ag,ah,ai,aj,ak,al,am,an,ao,ap,aq,ar,au,av,aw,ax,ay,az,aA,aB,aC,aD,aE,aF,aG,aH,aI,aJ,aK,aL,aM,aN,aO,aP,aQ,aR,aS,aT,aU,aV,aW,aX,aY,aZ,ba,bb,bc,bd,be,bf,bg,bh,bi,bj,bk],defers:=[Ee E] } W:=by
 rw [RS];refine Ae (λK hK=>?_);have HK:=qh hK;clear hK;refine Ug s (AA s.strip) B E w W hs hb [Ee E] _ (λhd x0 x3 x4 x5 x6 x7 x8 x9 x10 x11 x12 x13 x14 x15 x16 x17 x18 x19 x20 x21 x22 x23 x24 x25 x26 x27 x28 x29 x30 x31 x32 x33 x34 x35 x36 x37 x38 x39 x40 x41 x42 x43 x44 x45 x46 x47 x48 x49 x50 x51 x52 x53 x54 x55 x56 x57 x58 x59 x60 x61 x62 x63 x64 x65 x66 x67 x68 x69 x70 x71 x72 x73 x74 x75 x76 x77 x78 x79 x80 x81 x82 x83 x84 x85 x86 x87 x88 x89 x90 x91 x92 x93 x94 x95 x96 x97 x98 x99 x100 x101 x102 x103 x104 x105 x106 x107 x108 x109 x110 x111 x112 x113 x114 x115 x116 x117 x118 x119 x120 x121 V hV=>?_) (λhd t V ht hV=>?_)
 ·refine HK.out _ _ ?_
  exact Uo s ns B E w0 w V hc hs hD hE hA hC hV (by rw [hB,hd,Bool.true_and])
 ·exact Dv E s ns w0 w hA hC hE (by rw [hB,hd,Bool.false_and,if_neg (by simp)]) t V ht hV
theorem Ds(s:Ls)(ns:List Int)(w:World)(hA:s.At w)(hN:NsAt w s.refs ns)(he:Env w):Calls Tryz.prog 7 #[s.val] w (Eo s ns w):=by
 have hX:∀(fn:Fn) (first cap:Array Value) (w:World),(Instr.makeFunc fn first cap).run Tryz.prog w=.ok (.func fn first cap) w:=λ_ _ _ _=>rfl
 obtain ⟨W0,hH,gB,b0,s0⟩:=Ag w s.cells 30;obtain ⟨W1,hM,gE,b1,s1⟩:=Ag W0 #[int i64 0] 33;have b01:=Ad b0 b1;have C:=GA s ns W1 (hA.below b01) (hN.below b01) (he.below b01);have gB1:=Ah b1 gB
 -- behind names.Check
 have hO:∀V c,Below W1.heap.size W1 V→∃V2,V.setCell ⟨W0.heap.size,0,none⟩ (int i64 c)=V2∧V2.heap[W0.heap.size]?=some (.cells #[int i64 c] 33 (0,0))∧V2.heap[w.heap.size]?=some (.cells s.cells 30 (0,0))∧Below w.heap.size w V2:=λV c hV =>
  ⟨_,rfl,one_setCell (Ah hV gE),by rw [Ak _ (by omega)];exact Ah hV gB1,((Ad b01 hV)).setCell (p:=⟨W0.heap.size,0,none⟩) (by show w.heap.size≤W0.heap.size;omega) _⟩
 have hC:w.heap.size≤W0.heap.size:=by omega
 have hv:s.val=.agg s.cells:=rfl;rw [hv];have HX:=qh gB1;have HC:=qh C;have hP:=qh hO;have HA:=qh hA;have HN:=qh hN;have hU:=qh hM;have hF:=qh gE;have hY:=qh hH;have hQ:=qh hC;unfold Ls.cells at hH ⊢;clear hA hN he gB gB1 gE b0 b1 b01 C hO hv s0 s1 hM hC;go_enter_defers Tryz.func7,Tryz.ntmps7;change Code.wp Tryz.prog AP _ _ _;rw [RP];refine Ae (λK hK=>?_);have HK:=qh hK;clear hK
 conv=>arg 2;whnf
 go_wp2_with fail;rw [hU.out];refine HK.out _ _ ?_;clear HK K hH;rw [RQ];refine Ae (λK hK=>?_);have HK:=qh hK;clear hK
 conv=>arg 2;whnf
 have st0:True:=trivial;obtain ⟨c,hc⟩:∃c,BV s.strip ns=c:=⟨_,rfl⟩;have hG:=qh hc;unfold F5 at HC;rw [hc] at HC;clear hc;generalize hR:w.heap.size=B at *;generalize hW:W0.heap.size=E at *;by_cases hz:c=0
 ·subst hz
  go_wp2_with (first|(have q:=st0;clear q st0;(refine wpList_load_row rfl 30 _ rfl B rfl 30 s.cells (0,0) _ HX.out Tryz.underlying30 rfl (by kernel_rfl) ?_;simp only [Act.put,qD,qE,qF]))|(go_at_call 16;refine HC.out.mono ?_;rintro e V ⟨rfl,hv⟩;have HV:=qh hv;have x0:=cell_of_one (Ah hv hF.out);have f0:=free_of_one (Ah hv hF.out);obtain ⟨V2,hS,g1,g2,g3⟩:=hP.out V 0 hv;have y1:=cell_of_one g1;have hI:=qh g1;have hT:=qh g2;have hD:=qh g3;clear hv g1 g2 g3));refine HK.out _ _ ?_;clear HK K;subst hR;subst hW;have hA:=HA.out.below hD.out;have hE:=JR hG.out (HN.out.below hD.out);have hB:AE s ns=if ((inB s.wd 1 1000&&inB s.dp 1 1000)&&((inB s.t0 1 127&&inB s.t1 0 s.t0)&&(s.roles.all (BK s)&&(decide (CW ⟨s.bars,s.tempos,s.pauses,s.spans⟩=0)&&(s.phrases.all (λp=>p.its.strip.exB)&&(decide (Bq (s.nexts (AA s.strip))=[])&&s.dances.all (Ch s (AA s.strip) (BF s.itsL (AA s.strip)))))))))=true then 0 else 180:=by unfold AE;rw [if_pos hG.out];rfl
  have hJ:=qh (And.intro hA hE);have hL:=qh hB;clear hA hE hB x0 f0 hS y1;rw [RR];refine Ae (λK hK=>?_);have HK:=qh hK;clear hK
  conv=>arg 2;whnf
  go_wp2_with fail;refine HK.out _ _ ?_;exact Un s ns w.heap.size W0.heap.size w V2 V2 hG.out ⟨hJ.out.1,hT.out,λx hx=>hJ.out.2 x (by unfold Ls.refs;exact List.mem_append.2 (Or.inl hx))⟩ (λx hx=>hJ.out.2 x (by unfold Ls.refs;exact List.mem_append.2 (Or.inr hx))) hI.out hQ.out hD.out (Below.refl _ _) hL.out
 ·have hB:AE s ns=c:=by unfold AE;rw [hG.out,if_neg hz]
  have hL:=qh hB;clear hB
  go_wp2_with (first|(have q:=st0;clear q st0;(refine wpList_load_row rfl 30 _ rfl B rfl 30 s.cells (0,0) _ HX.out Tryz.underlying30 rfl (by kernel_rfl) ?_;simp only [Act.put,qD,qE,qF]))|(go_at_call 16;refine HC.out.mono ?_;rintro e V ⟨rfl,hv⟩;have HV:=qh hv;have x0:=cell_of_one (Ah hv hF.out);have f0:=free_of_one (Ah hv hF.out);obtain ⟨V2,hS,g1,g2,g3⟩:=hP.out V c hv;have y1:=cell_of_one g1;have f1:=free_of_one g1;have hI:=qh g1;have hT:=qh g2;have hD:=qh g3;clear hv g1 g2 g3));have y2:=cell_of_one (one_setCell (u:=int i64 c) hI.out);simp [bodyPostD,Leaves,results,Tryz.results7,go_sem,y2];subst hR;exact ⟨by rw [hL.out],hD.out.setCell (p:=⟨E,0,none⟩) hQ.out _⟩
theorem Rt(V:World):(binOp .neq 35 (.slice none 0 0) (.slice none 0 0)).run Tryz.prog V=.ok (.bool false) V:=by kernel_rfl
theorem PI(g n c:Nat)(V:World):(binOp .neq 35 (.slice (some ⟨g,0,none⟩) n c) (.slice none 0 0)).run Tryz.prog V=.ok (.bool true) V:=by kernel_rfl
theorem EC{s:Ls}{ns:List Int}{W:World}(h:BV s.strip ns=0)(hN:NsAt W s.refs ns):NumAt (AA s.strip) W (Aw s.phrases):=λx hx=>JR h hN x (by unfold Ls.refs;exact List.mem_append.2 (Or.inl hx))
def Cj(s:Ls)(ns:List Int):List Int:=if BV s.strip ns=0 then Bq (s.nexts (AA s.strip)) else []
def Of(s:Ls)(ns:List Int)(w:World)(e:Ending)(w':World):Prop:=∃v,e=.returned (.tuple #[v,.bool (decide (Cj s ns≠[])),int i64 (BV s.strip ns)])∧IntRow w' v (Cj s ns)∧Below w.heap.size w w'
theorem KM(s:Ls)(ns:List Int)(w:World)(hA:s.At w)(hN:NsAt w s.refs ns)(he:Env w):Calls Tryz.prog 9 #[s.val] w (Of s ns w):=by
 obtain ⟨W0,hK,gB,b0,s0⟩:=Ag w s.cells 30;have C:=GA s ns W0 (hA.below b0) (hN.below b0) (he.below b0);have hL:=Rt;have hM:=PI;have hv:s.val=.agg s.cells:=rfl;rw [hv];have HX:=qh gB;have HC:=qh C;have HA:=qh hA;have HN:=qh hN;have HB:=qh b0;unfold Ls.cells at hK ⊢;clear hA hN he gB b0 C hv s0;obtain ⟨c,hc⟩:∃c,BV s.strip ns=c:=⟨_,rfl⟩;have hC:=qh hc;unfold F5 at HC;rw [hc] at HC;clear hc;have st0:True:=trivial;by_cases hz:c=0
 ·subst hz
  have hl:Cj s ns=Bq (s.nexts (AA s.strip)):=by unfold Cj;rw [if_pos hC.out]
  have HR:=qh (λV (hV:Below w.heap.size w V)=>L2 s (AA s.strip) V (HA.out.below hV) (EC hC.out (HN.out.below hV)) (by have:=C9 hC.out;omega));have hE:=qh hl;clear hl;by_cases hr:Cj s ns=[]
  ·have hD:=qh hr
   clear hr;go_enter Tryz.func9,Tryz.ntmps9
   go_wp2_with (first|(have q:=st0;clear q st0;refine wpList_load_row rfl 30 _ rfl w.heap.size rfl 30 s.cells (0,0) _ HX.out Tryz.underlying30 rfl (by kernel_rfl) ?_;simp only [Act.put,qD,qE,qF])|(go_at_call 16;refine HC.out.mono ?_;rintro e V ⟨rfl,hv⟩;have HV:=qh (Ad HB.out hv);have hG:=qh (Ah hv HX.out);have st1:True:=trivial;clear hv)|(have q:=st1;clear q st1;refine wpList_load_row rfl 30 _ rfl w.heap.size rfl 30 s.cells (0,0) _ hG.out Tryz.underlying30 rfl (by kernel_rfl) ?_;simp only [Act.put,qD,qE,qF])|(go_at_call 23;refine (HR.out _ HV.out).mono ?_;rintro e V2 ⟨v,rfl,hF,hB⟩;rw [← hE.out,hD.out] at hB;rcases hB with ⟨_,rfl⟩|⟨g,cap,rfl,hJ,_⟩;rotate_left;exact absurd rfl hJ;have hH:=qh hF;clear hF));refine bodyPost_ret (v:=.tuple #[.slice none 0 0,.bool false,int i64 0]) ?_ rfl ?_
   ·simp [results,Tryz.results9,go_sem]
   ·exact ⟨_,by rw [hD.out,hC.out];rfl,by rw [hD.out];exact Or.inl ⟨rfl,rfl⟩,Ad HV.out hH.out⟩
  ·have hD:=qh hr
   clear hr;go_enter Tryz.func9,Tryz.ntmps9
   go_wp2_with (first|(have q:=st0;clear q st0;refine wpList_load_row rfl 30 _ rfl w.heap.size rfl 30 s.cells (0,0) _ HX.out Tryz.underlying30 rfl (by kernel_rfl) ?_;simp only [Act.put,qD,qE,qF])|(go_at_call 16;refine HC.out.mono ?_;rintro e V ⟨rfl,hv⟩;have HV:=qh (Ad HB.out hv);have hG:=qh (Ah hv HX.out);have st1:True:=trivial;clear hv)|(have q:=st1;clear q st1;refine wpList_load_row rfl 30 _ rfl w.heap.size rfl 30 s.cells (0,0) _ hG.out Tryz.underlying30 rfl (by kernel_rfl) ?_;simp only [Act.put,qD,qE,qF])|(go_at_call 23;refine (HR.out _ HV.out).mono ?_;rintro e V2 ⟨v,rfl,hF,hB⟩;rw [← hE.out] at hB;have hI:=qh hB;rcases hB with ⟨he,_⟩|⟨g,cap,rfl,hJ,_⟩;exact absurd he hD.out;have hH:=qh hF;clear hF));refine bodyPost_ret (v:=.tuple #[.slice (some ⟨g,0,none⟩) (Cj s ns).length cap,.bool true,int i64 0]) ?_ rfl ?_
   ·simp [results,Tryz.results9,go_sem]
   ·exact ⟨_,by rw [hC.out,decide_eq_true hD.out],hI.out,Ad HV.out hH.out⟩
 ·have hl:Cj s ns=[]:=by unfold Cj;rw [hC.out,if_neg hz]
  have hE:=qh hl;clear hl;go_enter Tryz.func9,Tryz.ntmps9
  go_wp2_with (first|(have q:=st0;clear q st0;refine wpList_load_row rfl 30 _ rfl w.heap.size rfl 30 s.cells (0,0) _ HX.out Tryz.underlying30 rfl (by kernel_rfl) ?_;simp only [Act.put,qD,qE,qF])|(go_at_call 16;refine HC.out.mono ?_;rintro e V ⟨rfl,hv⟩;have HV:=qh (Ad HB.out hv);clear hv));refine bodyPost_ret (v:=.tuple #[.slice none 0 0,.bool false,int i64 c]) ?_ rfl ?_
  ·simp [results,Tryz.results9,go_sem]
  ·exact ⟨_,by rw [hE.out,hC.out];rfl,by rw [hE.out];exact Or.inl ⟨rfl,rfl⟩,HV.out⟩
def Eh(s:Ls)(ns:List Int)(k:Int):Int×Int:=if AE s ns=0 then (if inB k 0 ((s.phrases.length:Int)-1)=true then (if BF s.itsL (AA s.strip) k≤4096 then (BF s.itsL (AA s.strip) k,0) else (0,2)) else (0,1)) else (0,AE s ns)
def QL(s:Ls)(ns:List Int)(k:Int)(w:World)(e:Ending)(w':World):Prop:=e=.returned (.tuple #[int i64 (Eh s ns k).1,int i64 (Eh s ns k).2])∧Below w.heap.size w w'
theorem Ej{s:Ls}{ns:List Int}(h:AE s ns=0):BV s.strip ns=0∧G2 s (AA s.strip)=true:=by
 unfold AE at h
 split at h
 ·rename_i h1
  split at h
  ·rename_i h2;exact ⟨h1,h2⟩
  ·omega
 ·contradiction
theorem O4{s:Ls}{ns:List Int}(h:AE s ns=0):LenOk s.phrases (AA s.strip) (DB (s.nexts (AA s.strip))) (BF s.itsL (AA s.strip)):=by
 obtain ⟨h1,h2⟩:=Ej h;unfold G2 at h2;simp only [Bool.and_eq_true] at h2;exact LM h2.2.2.2.2.1 (of_decide_eq_true h2.2.2.2.2.2.1) (FE h1)
theorem GZ(s:Ls)(ns:List Int)(k:Int)(w:World)(hA:s.At w)(hN:NsAt w s.refs ns)(he:Env w):Calls Tryz.prog 11 #[s.val,int i64 k] w (QL s ns k w):=by
 obtain ⟨W0,hO,gB,b0,s0⟩:=Ag w s.cells 30;have C:=Ds s ns W0 (hA.below b0) (hN.below b0) (he.below b0);have hv:s.val=.agg s.cells:=rfl;rw [hv];have HX:=qh gB;have HC:=qh C;have HA:=qh hA;have HN:=qh hN;have HB:=qh b0;unfold Ls.cells at hO ⊢;clear hA hN he gB b0 C hv s0;obtain ⟨c,hc⟩:∃c,AE s ns=c:=⟨_,rfl⟩;have hB:=qh hc;unfold Eo at HC;rw [hc] at HC;clear hc;have st0:True:=trivial;by_cases hz:c=0
 ·subst hz
  have hE:=C9 (Ej hB.out).1;have hP:=hE.2.1;have hK:=qh (O4 hB.out);have hL:=qh (λV (hV:Below w.heap.size w V)=>Gc s (AA s.strip) (BF s.itsL (AA s.strip)) V (HA.out.below hV) (EC (Ej hB.out).1 (HN.out.below hV)))
  cases hq:inB k 0 ((s.phrases.length:Int)-1) with
  | false =>
   have hl:Eh s ns k=(0,1):=by unfold Eh;rw [if_pos hB.out,hq];rfl
   have HL:=qh hl;clear hl hE;go_enter Tryz.func11,Tryz.ntmps11
   go_wp2_with (first|(have q:=st0;clear q st0;refine wpList_load_row rfl 30 _ rfl w.heap.size rfl 30 s.cells (0,0) _ HX.out Tryz.underlying30 rfl (by kernel_rfl) ?_;simp only [Act.put,qD,qE,qF])|(go_at_call 7;refine HC.out.mono ?_;rintro e V ⟨rfl,hv⟩;have HV:=qh (Ad HB.out hv);have hD:=qh (Ah hv HX.out);have y9:V.cell? ⟨w.heap.size,10,none⟩=some (.slice s.fa s.phrases.length s.fc):=(Aa (Ah hv HX.out) 10 rfl);have st1:True:=trivial;clear hv)|(go_at_call 20;refine (CK (by assumption) _).mono ?_;rintro e w2 ⟨rfl,rfl⟩));go_ret2;exact ⟨by rw [HL.out];rfl,HV.out⟩
  | true =>
   obtain ⟨hQ,hR⟩:=AR.1 hq;obtain ⟨j,rfl⟩:∃j:Nat,k=j:=⟨k.toNat,by omega⟩;have hj:j<s.phrases.length:=by omega
   obtain ⟨lb0,lb1⟩:=hK.out.bound j hj;have hF:=qh (λB7 KB M SB PB V (hV:LenW V s (AA s.strip) B7 KB M SB PB (BF s.itsL (AA s.strip)))=>MK s (AA s.strip) B7 KB M SB PB _ _ hK.out (by omega) _ j (qn _) hj V hV);obtain ⟨lj,hG⟩:∃lj,BF s.itsL (AA s.strip) j=lj:=⟨_,rfl⟩;have hM:=qh hG;rw [hG] at lb0 lb1 hF;clear hG hE;by_cases h4:lj≤4096
   ·have hl:Eh s ns j=(lj,0):=by unfold Eh;rw [if_pos hB.out,hq,if_pos rfl,hM.out,if_pos h4]
    have HL:=qh hl;clear hl;go_enter Tryz.func11,Tryz.ntmps11
    go_wp2_with (first|(have q:=st0;clear q st0;refine wpList_load_row rfl 30 _ rfl w.heap.size rfl 30 s.cells (0,0) _ HX.out Tryz.underlying30 rfl (by kernel_rfl) ?_;simp only [Act.put,qD,qE,qF])|(go_at_call 7;refine HC.out.mono ?_;rintro e V ⟨rfl,hv⟩;have HV:=qh (Ad HB.out hv);have hD:=qh (Ah hv HX.out);have y9:V.cell? ⟨w.heap.size,10,none⟩=some (.slice s.fa s.phrases.length s.fc):=(Aa (Ah hv HX.out) 10 rfl);have st1:True:=trivial;clear hv)|(go_at_call 20;refine (CK (by assumption) _).mono ?_;rintro e w2 ⟨rfl,rfl⟩)|(have q:=st1;clear q st1;refine wpList_load_row rfl 30 _ rfl w.heap.size rfl 30 s.cells (0,0) _ hD.out Tryz.underlying30 rfl (by kernel_rfl) ?_;simp only [Act.put,qD,qE,qF])|(go_at_call 24;refine (hL.out _ HV.out).mono ?_;rintro e V2 ⟨B7,KB,M,SB,PB,rfl,a1,a2,a3⟩;have hH:=qh a1;have hI:=qh (Nat.le_trans HV.out.size a2);have hC:=qh (Ad HV.out a3);clear a1 a2 a3)|(go_at_call 44;refine (hF.out B7 KB M SB PB _ hH.out).mono ?_;rintro e V3 ⟨rfl,_,b3⟩;have hJ:=qh (hC.out.grown b3 hC.out.size (λq hq=>by cases hq;exact hI.out));clear b3));go_ret2;exact ⟨by rw [HL.out];rfl,hJ.out⟩
   ·have hl:Eh s ns j=(0,2):=by unfold Eh;rw [if_pos hB.out,hq,if_pos rfl,hM.out,if_neg h4]
    have HL:=qh hl;clear hl;go_enter Tryz.func11,Tryz.ntmps11
    go_wp2_with (first|(have q:=st0;clear q st0;refine wpList_load_row rfl 30 _ rfl w.heap.size rfl 30 s.cells (0,0) _ HX.out Tryz.underlying30 rfl (by kernel_rfl) ?_;simp only [Act.put,qD,qE,qF])|(go_at_call 7;refine HC.out.mono ?_;rintro e V ⟨rfl,hv⟩;have HV:=qh (Ad HB.out hv);have hD:=qh (Ah hv HX.out);have y9:V.cell? ⟨w.heap.size,10,none⟩=some (.slice s.fa s.phrases.length s.fc):=(Aa (Ah hv HX.out) 10 rfl);have st1:True:=trivial;clear hv)|(go_at_call 20;refine (CK (by assumption) _).mono ?_;rintro e w2 ⟨rfl,rfl⟩)|(have q:=st1;clear q st1;refine wpList_load_row rfl 30 _ rfl w.heap.size rfl 30 s.cells (0,0) _ hD.out Tryz.underlying30 rfl (by kernel_rfl) ?_;simp only [Act.put,qD,qE,qF])|(go_at_call 24;refine (hL.out _ HV.out).mono ?_;rintro e V2 ⟨B7,KB,M,SB,PB,rfl,a1,a2,a3⟩;have hH:=qh a1;have hI:=qh (Nat.le_trans HV.out.size a2);have hC:=qh (Ad HV.out a3);clear a1 a2 a3)|(go_at_call 44;refine (hF.out B7 KB M SB PB _ hH.out).mono ?_;rintro e V3 ⟨rfl,_,b3⟩;have hJ:=qh (hC.out.grown b3 hC.out.size (λq hq=>by cases hq;exact hI.out));clear b3));go_ret2;exact ⟨by rw [HL.out];rfl,hJ.out⟩
 ·have hl:Eh s ns k=(0,c):=by unfold Eh;rw [hB.out,if_neg hz]
  have HL:=qh hl;clear hl;go_enter Tryz.func11,Tryz.ntmps11
  go_wp2_with (first|(have q:=st0;clear q st0;refine wpList_load_row rfl 30 _ rfl w.heap.size rfl 30 s.cells (0,0) _ HX.out Tryz.underlying30 rfl (by kernel_rfl) ?_;simp only [Act.put,qD,qE,qF])|(go_at_call 7;refine HC.out.mono ?_;rintro e V ⟨rfl,hv⟩;have HV:=qh (Ad HB.out hv);clear hv));go_ret2;exact ⟨by rw [HL.out];rfl,HV.out⟩
end
section
open Go Go.RowKit Go.Deep
theorem EZ(s:Ls)(f:Nm→Int):(s.nexts f).length=s.phrases.length:=by unfold Ls.nexts;rw [List.length_map]
theorem PJ{s:Ls}{f:Nm→Int}(hA:FI s.itsL f):∀j,j<s.phrases.length→∀u∈(s.nexts f).getD j [],∃k:Nat,u=k∧k<s.phrases.length:=by
 intro j hj u hu;obtain ⟨p,hp⟩:∃p,s.phrases[j]?=some p:=⟨_,qg hj⟩;rw [E7 hp,E6] at hu;obtain ⟨k,h1,h2⟩:=hA p.its.strip (List.mem_map.2 ⟨p,List.mem_of_getElem? hp,rfl⟩) u (hu.resolve_left (by simp));exact ⟨k,h1,by simpa [Ls.itsL] using h2⟩
theorem Rx(w:World)(x:Int){B:Nat}(hB:B≤w.heap.size):(w.alloc (.cells #[int i64 x] 3)).ownsRow B 3 1 (.slice (some ⟨w.heap.size,0,none⟩) 1 1) 1 (Ci [x]) :=
 ⟨rfl,Or.inr ⟨w.heap.size,1,#[int i64 x],rfl,hB,heap_alloc_new w _,qn _,by unfold maxLen;omega,rfl,rfl⟩⟩
theorem Ns{kss:List (List Int)}{i x m n:Nat}(hn:kss.length=n)(hu:∀j,j<n→∀u∈kss.getD j [],∃k:Nat,u=k∧k<n)(hx:x<n)(h:AN kss i kss.length x=some ((m+1+1:Nat):Int)):∃k,k<n∧onB kss (AN kss i kss.length) x ((m+1:Nat):Int) k=true:=by
 obtain ⟨_,u,h1,h2⟩:=Pb h
 have h3:AN kss i kss.length u=some ((m+1:Nat):Int):=by
  rcases h2 with ⟨h,_⟩|⟨_,h⟩
  ·omega
  ·exact h
 rw [Int.toNat_natCast] at h1;obtain ⟨k,rfl,hk⟩:=hu x hx u h1;refine ⟨k,hk,?_⟩;unfold onB;rw [Int.toNat_natCast,decide_eq_true h1,h3];simp
theorem PL(kss:List (List Int))(g:Int→Option Int)(x k:Nat)(left:Int):onB kss g x left k=(inM kss x k&&decide ((g k).getD 0=left)):=by
 unfold onB inM;rw [Int.toNat_natCast]
structure WayR(kss:List (List Int))(i n B:Nat)(W0:World)(v:Value)(l:List Int)(x left:Nat)(W:World):Prop where
 own:W.ownsRow B 3 1 v l.length (Ci l)
 last:l.getLast?=some (x:Int)
 way:l++Dk kss (AN kss i kss.length) kss.length left x=Bq kss
 far:AN kss i kss.length x=some ((left+1:Nat):Int)
 below:Below B W0 W
theorem QI{kss:List (List Int)}{g:Int→Option Int}{n m x k:Nat}{l tot:List Int}(h:l++Dk kss g n (m+1) x=tot)(hp:DJ kss g x ((m+1:Nat):Int) n=some k):(l++[(k:Int)])++Dk kss g n m k=tot:=by
 unfold Dk at h;rw [hp] at h;simpa using h
theorem N9{o:Option Int}{v:Int}(hv:1≤v)(h:o.getD 0=v):o=some v:=by
 cases o with
 | none=>simp at h;omega
 | some u=>simp at h;rw [h]
theorem T9:∃i,Tryz.prog.info? 3=some i∧i.zero=some (int i64 0)∧i.size=1∧i.bytes=8:=by
 obtain ⟨i,h1,h2,h3,h4⟩:=info_parts LI;exact ⟨i,h1,h2,h3,h4⟩
theorem LN(s:Ls)(ns:List Int)(w:World)(hA:s.At w)(hN:NsAt w s.refs ns)(hs:∀V,Below w.heap.size w V→Calls Tryz.prog 31 #[s.val] V (F5 s.strip ns V)):Calls Tryz.prog 10 #[s.val] w (Of s ns w):=by
 obtain ⟨W0,HJ,gB,b0,s0⟩:=Ag w s.cells 30;have C:=hs W0 b0;have hv:s.val=.agg s.cells:=rfl;rw [hv];have HX:=qh gB;have HC:=qh C;have HA:=qh hA;have HN:=qh hN;have HB:=qh b0;unfold Ls.cells at HJ ⊢;clear hA hN hs gB b0 C hv s0;obtain ⟨c,hc⟩:∃c,BV s.strip ns=c:=⟨_,rfl⟩;have hF:=qh hc;unfold F5 at HC;rw [hc] at HC;clear hc;have st0:True:=trivial;by_cases hz:c=0
 case neg =>
  have hl:Cj s ns=[]:=by unfold Cj;rw [hF.out,if_neg hz]
  have hM:=qh hl;clear hl;go_enter Tryz.func10,Tryz.ntmps10
  go_wp2_with (first|(have q:=st0;clear q st0;refine wpList_load_row rfl 30 _ rfl w.heap.size rfl 30 s.cells (0,0) _ HX.out Tryz.underlying30 rfl (by kernel_rfl) ?_;simp only [Act.put,qD,qE,qF])|(go_at_call 31;refine HC.out.mono ?_;rintro e V ⟨rfl,hv⟩;have HV:=qh (Ad HB.out hv);clear hv));refine bodyPost_ret (v:=.tuple #[.slice none 0 0,.bool false,int i64 c]) ?_ rfl ?_
  ·simp [results,Tryz.results10,go_sem]
  ·exact ⟨_,by rw [hM.out,hF.out];rfl,by rw [hM.out];exact Or.inl ⟨rfl,rfl⟩,HV.out⟩
 subst hz;obtain ⟨n,hO⟩:∃n,s.phrases.length=n:=⟨_,rfl⟩;obtain ⟨kss,hD⟩:∃k,s.nexts (AA s.strip)=k:=⟨_,rfl⟩;have HK:n≤64:=by rw [← hO];exact (C9 hF.out).2.1
 have hX:=FE hF.out;have HU:=qh (λV (hV:Below w.heap.size w V)=>It s (AA s.strip) V (HA.out.below hV) (EC hF.out (HN.out.below hV)) (by omega) hX);have HM:Hid (∀W1 W v,UzW W1 (CE s (AA s.strip)) v W→IsMatB W v n (inM kss)):=qh (λW1 W v h=>by rw [← hO,← hD];exact h.mat hX);have hE:Hid (kss.length=n):=qh (by rw [← hD,← hO];exact EZ _ _);have ht:Hid (∀j,j<n→∀u∈kss.getD j [],∃k:Nat,u=k∧k<n):=qh (by rw [← hD,← hO];exact PJ hX);have hM:Hid (Cj s ns=Bq kss):=qh (by unfold Cj;rw [if_pos hF.out,hD]);clear hX hO hD;go_enter Tryz.func10,Tryz.ntmps10
 go_wp2_with (first|(have q:=st0;clear q st0;refine wpList_load_row rfl 30 _ rfl w.heap.size rfl 30 s.cells (0,0) _ HX.out Tryz.underlying30 rfl (by kernel_rfl) ?_;simp only [Act.put,qD,qE,qF])|(go_at_call 31;refine HC.out.mono ?_;rintro e V ⟨rfl,hv⟩;have HV:=qh (Ad HB.out hv);have HO:=qh (Ah hv HX.out);have st1:True:=trivial;clear hv)|(have q:=st1;clear q st1;refine wpList_load_row rfl 30 _ rfl w.heap.size rfl 30 s.cells (0,0) _ HO.out Tryz.underlying30 rfl (by kernel_rfl) ?_;simp only [Act.put,qD,qE,qF])|(go_at_call 32;refine (HU.out _ HV.out).mono ?_;rintro e V2 ⟨v,W1',rfl,hb,hu⟩;have hP:=HM.out _ _ _ hu;have hw:=qh (Ad HV.out (Ad hb hu.below));have he:=qh hP;obtain ⟨ao,cap,rfl,hf,hx⟩:=hP;have HF:=qh hf;have HP:=qh hx;clear hb hu hf hx));go_loopw [7] (λiv wr=>∃i:Nat,iv=int i64 i∧i≤n∧Hid (∀j,j<i→D3 kss j=false)∧Hid (Below V2.heap.size V2 wr)) (λiv _=>n+1-(intOf iv).toNat)
 case atStart=>exact ⟨0,rfl,Nat.zero_le _,qh (λj hj=>absurd hj (Nat.not_lt_zero _)),qh (Below.refl _ _)⟩
 case round =>
  obtain ⟨i,rfl,Hr,hY,hB⟩:=hrel;by_cases hQ:i<n
  ·have hi:(i:Int)<(n:Int):=by omega
   have hy:=qh (O6 _ n kss i wr (he.out.below hB.out) hE.out (by omega) ht.out);go_wp2_with fail;refine hy.out.mono ?_;rintro e V3 ⟨F,l,rfl,hS,hL⟩;have y1:=hS.row.cell (j:=i) (by rw [hS.len];exact hQ);have hZ:=qh (Ad hB.out hS.below);have HS:=qh hS;have HL:=qh hL;clear hS hL hy hB
   cases hC:AN kss i n i with
   | none =>
    have h0:gi l i=0:=(HL.out.zero hQ).2 hC;rw [h0] at y1
    have HQ:Hid (∀j,j<i+1→D3 kss j=false):=qh (λj hj=>by
     by_cases e:j=i
     ·subst e;unfold D3;rw [hE.out,hC];rfl
     ·exact hY.out j (by omega))
    clear h0 hC;go_wp2_with fail;go_roundw
    case rel=>exact ⟨i+1,by go_num,by omega,HQ,hZ⟩
    case measure=>simp [intOf];omega
   | some d0 =>
    obtain ⟨HT,HY⟩:=D6 hC;obtain ⟨d,rfl⟩:∃d:Nat,d0=((d+1:Nat):Int):=⟨(d0-1).toNat,by omega⟩;have h0:gi l i=((d+1:Nat):Int):=(HL.out.some hQ (by omega)).2 hC;have Hs:d+1≤n:=by omega
    obtain ⟨dd,HZ⟩:∃dd,d+1=dd:=⟨_,rfl⟩;rw [h0,HZ] at y1;have Ha:((dd:Int)==0)=false:=by simp;omega
    have Ht:(dd:Int)-1=(d:Int):=by omega
    obtain ⟨V4,h1⟩:∃V4,V3.alloc (.cells #[int i64 i] 3)=V4:=⟨_,rfl⟩;have b4:Below V3.heap.size V3 V4:=by rw [← h1];exact (Below.refl _ _).alloc (qn _) _
    have Hb:Hid (WayR kss i n V3.heap.size V3 (.slice (some ⟨V3.heap.size,0,none⟩) 1 1) [(i:Int)] i d V4):=qh ⟨by rw [← h1];exact Rx V3 i (qn _),rfl,by
     have:=Ii (kss:=kss) (i:=i) (by rw [hE.out];exact hQ) hY.out (by rw [hE.out];exact hC)
     rw [this];rfl,by rw [hE.out];exact hC,b4⟩
    have y1':=Ac b4 y1;clear h0 HT HY hC hY b4;have h2:V3.heap.size≤V3.heap.size:=qn _;obtain ⟨B,Hc⟩:∃B,V3.heap.size=B:=⟨_,rfl⟩;have ha:=qh Hc;go_wp2_with fail;clear y1 y1' Ha;go_loopw [9,10] (λov nv wq=>∃(left x:Nat) (lst:List Int) (v:Value),nv=int i64 left∧v=ov∧lst.length+left≤n∧x<n∧Hid (WayR kss i n B V3 v lst x left wq)) (λ_ nv _=>(intOf nv).toNat)
    case atStart=>exact ⟨d,i,[(i:Int)],_,rfl,rfl,by simp;omega,hQ,by rw [← ha.out];exact Hb⟩
    case round =>
     obtain ⟨left,x,lst,v,rfl,rfl,Hd,h3,hW⟩:=hrel;have hI:Below V3.heap.size V3 wr:=by rw [ha.out];exact hW.out.below
     cases left with
     | zero =>
      have HR:Hid (Cj s ns=lst):=qh (by
       have:=hW.out.way;unfold Dk at this;rw [List.append_nil] at this
       rw [hM.out,this])
      have hg:lst≠[]:=λe=>by have:=hW.out.last;rw [e] at this;cases this
      have hh:=qh (MH hW.out.own hg);have hJ:=qh hg;have h4:=qh hI;clear hg hI;go_wp2_with fail;refine bodyPost_ret (v:=.tuple #[v,.bool true,int i64 0]) ?_ rfl ?_
      ·simp [results,Tryz.results10,go_sem]
      ·exact ⟨_,by rw [HR.out,hF.out,decide_eq_true hJ.out],by rw [HR.out];exact hh.out,Ad hw.out (Ad hZ.out h4.out)⟩
     | succ m =>
      obtain ⟨q,hq⟩:∃q,lst.length=q+1:=by
       cases e:lst with
       | nil=>have:=hW.out.last;rw [e] at this;cases this
       | cons a r=>exact ⟨r.length,rfl⟩
      obtain ⟨g,cp,rfl,hG⟩:=I8 hW.out.own (by omega);have hH:lst[q]?=some (x:Int):=by have:=hW.out.last;rw [List.getLast?_eq_getElem?,hq] at this;exact this
      have yq:=hG q (int i64 x) (by unfold Ci;rw [List.getElem?_map,hH];rfl);obtain ⟨ks,h5,hR⟩:=Ns hE.out ht.out h3 hW.out.far;obtain ⟨R,r1,r2⟩:=HP.out x h3;have yr:=Ac hI (Ac hZ.out r1);have He:Hid (∀k,k<n→wr.cell? ⟨R,k,none⟩=some (.bool (inM kss x k))):=qh (λk hk=>Ac hI (Ac hZ.out (r2 k hk)));have Hf:Hid (∀k,k<n→wr.cell? ⟨F,k,none⟩=some (int i64 (gi l k))):=qh (λk hk=>Ac hI (HS.out.row.cell (by rw [HS.out.len];exact hk)));have Hg:=HF.out.resolve_left (by omega);have Hu:(((q+1:Nat):Int))-1=(q:Int):=by omega
      have Hv:((m+1:Nat):Int)-1=(m:Int):=by omega
      have Hw:(0:Int)<((m+1:Nat):Int):=by omega
      have Hx:(q:Int)<((q+1:Nat):Int):=by omega
      have Hy:(x:Int)<(n:Int):=by omega
      have HW:=qh hW.out;have hm:=qh (And.intro h5 hR);have hn:=qh hq;have h4:=qh hI;rw [hq] at Hd ⊢;clear hW hG hH h5 hR r1 r2 hI hq;generalize Hh:blk ao=bb at *;subst Hg;clear Hh HF;go_wp2_with fail;go_loopw [12] (λkv wz=>∃k:Nat,kv=int i64 k∧k≤ks∧Hid (∀k',k'<k→onB kss (AN kss i kss.length) x ((m+1:Nat):Int) k'=false)∧wz=wr) (λkv _=>ks+1-(intOf kv).toNat)
      case atStart=>exact ⟨0,rfl,Nat.zero_le _,qh (λj hj=>absurd hj (Nat.not_lt_zero _)),rfl⟩
      case round =>
       obtain ⟨k,rfl,Hz,hK,rfl⟩:=hrel;have hT:k<n:=by have:=hm.out.1;omega
       have H0:(k:Int)<(n:Int):=by omega
       have x1:=He.out k hT;have x2:=Hf.out k hT;have ho:=qh (PL kss (AN kss i kss.length) x k ((m+1:Nat):Int));have hp:Hid (gi l k=(AN kss i kss.length k).getD 0):=qh (by rw [hE.out];exact HL.out.val k hT);rcases EP (inM kss x k) with u0|u0
       ·rw [u0] at x1
        have hU:=qh (show onB kss (AN kss i kss.length) x ((m+1:Nat):Int) k=false by rw [ho.out,u0];rfl);have hJ:Hid (k≠ks):=qh (λe=>by have:=hm.out.2;rw [← e,hU.out] at this;cases this)
        have hr:Hid (∀k',k'<k+1→onB kss (AN kss i kss.length) x ((m+1:Nat):Int) k'=false):=qh (λk' Hi=>by
         by_cases e:k'=k
         ·rw [e];exact hU.out
         ·exact hK.out k' (by omega))
        clear u0;go_wp2_with fail;go_roundw
        case rel=>exact ⟨k+1,by go_num,by have:=hJ.out;omega,hr,trivial⟩
        case measure=>have:=hJ.out;simp [intOf];omega
       ·rw [u0] at x1
        rcases Di (gi l k=((m+1:Nat):Int)) with u1|u1
        ·have f1:(gi l k != ((m+1:Nat):Int))=false:=by rw [u1];simp
         have hR:onB kss (AN kss i kss.length) x ((m+1:Nat):Int) k=true:=by rw [ho.out,u0,← hp.out,u1];simp
         have h6:=Jl (n:=kss.length) (by rw [hE.out];exact hT) hK.out hR;have h7:AN kss i kss.length k=some ((m+1:Nat):Int):=N9 (by omega) (by rw [← hp.out,u1]);have Hj:=qh h6;have Hk:=qh h7;clear u0 u1 hR h6 h7;obtain ⟨i0,j1,j2,j3,j4⟩:=T9;have hd:=qh (And.intro j1 (And.intro j2 (And.intro j3 j4)));obtain ⟨W3,h8,b3,z3⟩:∃W3,wr.alloc (.cells #[int i64 k] 3)=W3∧Below wr.heap.size wr W3∧W3.cell? ⟨wr.heap.size,0,none⟩=some (int i64 k):=⟨_,rfl,(Below.refl _ _).alloc (qn _) _,Aa (heap_alloc_new wr _) 0 rfl⟩;have h9:Hid (W3.ownsRow B 3 1 (.slice (some ⟨g,0,none⟩) (q+1) cp) (q+1) (Ci lst)):=qh (by rw [← hn.out];exact I5 HW.out.own b3);have HD:Hid (Below B V3 W3):=qh (HW.out.below.trans (b3.mono (by have:=HW.out.below.size;have:=ha.out;omega)));have HE:B≤W3.heap.size:=by have:=HD.out.size;have:=ha.out;omega
         have Hl:=qh z3;have Hm:=qh h8;have HG:=qh HE;clear j1 j2 j3 j4 z3 h8 b3 HE
         go_wp2_with (at_builtin;rw [Hm.out];refine AL rfl _ _ 35 rfl B 3 i0 _ 1 8 Tryz.underlying35 hd.out.1 hd.out.2.1 hd.out.2.2.1 hd.out.2.2.2 rfl (by decide) _ (q+1) (Ci lst) rfl h9.out (some ⟨wr.heap.size,0,none⟩) 1 1 (Ci [(k:Int)]) rfl rfl (λh=>by cases h) (λad Hn j u hj=>by cases Hn;match j,hj with|0,hj=>(cases hj;exact Hl.out)|j+1,hj=>simp [Ci] at hj) (by simp [Ci,Value.oneCell']) (by unfold maxLen;omega) (by omega) HG.out ?_;intro v3 V5 HH HI Ho;have Hp:=qh HH;have Hq:=qh (HD.out.grown HI HG.out (λk hk=>MG h9.out hk));clear HH HI Ho);go_roundw
         case rel =>
          refine ⟨m,k,lst++[(k:Int)],v3,by go_num,rfl,by rw [List.length_append,hn.out];simp;omega,hT,qh ⟨?_,by simp,QI HW.out.way Hj.out,Hk.out,Hq.out⟩⟩;rw [List.length_append,hn.out,show Ci (lst++[(k:Int)])=Ci lst++Ci [(k:Int)] by simp [Ci]];exact Hp.out
         case measure=>simp [intOf]
        ·have f1:(gi l k != ((m+1:Nat):Int))=true:=by simpa using u1
         have hU:=qh (show onB kss (AN kss i kss.length) x ((m+1:Nat):Int) k=false by rw [ho.out,u0,← hp.out,decide_eq_false u1];rfl);have hJ:Hid (k≠ks):=qh (λe=>by have:=hm.out.2;rw [← e,hU.out] at this;cases this)
         have hr:Hid (∀k',k'<k+1→onB kss (AN kss i kss.length) x ((m+1:Nat):Int) k'=false):=qh (λk' Hi=>by
          by_cases e:k'=k
          ·rw [e];exact hU.out
          ·exact hK.out k' (by omega))
         clear u0 u1;go_wp2_with fail;go_roundw
         case rel=>exact ⟨k+1,by go_num,by have:=hJ.out;omega,hr,trivial⟩
         case measure=>have:=hJ.out;simp [intOf];omega
  ·have:i=n:=by omega
   subst this;have hz:¬(i:Int)<(i:Int):=by omega
   have HR:Hid (Cj s ns=[]):=qh (by rw [hM.out];exact Ih (by rw [hE.out];exact hY.out));go_wp2_with fail;refine bodyPost_ret (v:=.tuple #[.slice none 0 0,.bool false,int i64 0]) ?_ rfl ?_
   ·simp [results,Tryz.results10,go_sem]
   ·exact ⟨_,by rw [HR.out,hF.out];rfl,by rw [HR.out];exact Or.inl ⟨rfl,rfl⟩,Ad hw.out hB.out⟩
theorem KnL.begin{n:Nat}{rk:Nat→Nat}{len:Int→Int}{ls:List Int}(hl:ls.length=n)(h:∀k:Nat,k<n→gi ls k=-1):KnL n rk len 0 0 ls :=
 ⟨hl,λk hk=>Or.inl (h k hk),λ_ _ h=>absurd h (Nat.not_lt_zero _),λ_ _ h=>absurd h (Nat.not_lt_zero _)⟩
def U0(len:Int→Int)(n:Nat)(w:World)(e:Ending)(w':World):Prop:=∃G ls,e=.returned (.slice (some ⟨G,0,none⟩) n n)∧BI w' G ls∧ls.length=n∧(∀k:Nat,k<n→gi ls k=len k)∧Below w.heap.size w w'∧w.heap.size≤G
theorem StS.next{W wr V:World}{F n:Nat}{l:List Int}(h:StS W F n l wr)(hb:Below wr.heap.size wr V):StS W F n l V :=
 ⟨h.row.below hb h.row.lt,Ad h.below hb,h.low,h.len⟩
structure PhL(s:Ls)(f:Nm→Int)(rk:Nat→Nat)(len:Int→Int)(n:Nat):Prop where
 ok:LenOk s.phrases f rk len
 len_:s.phrases.length=n
 rank:∀j,j<n→rk j<n
 kinds:∀p∈s.phrases,p.its.strip.kinds=true
 uses:FI s.itsL f
theorem PhL.known{s:Ls}{f:Nm→Int}{rk:Nat→Nat}{len:Int→Int}{n r i:Nat}{ls:List Int}(h:PhL s f rk len n)(hk:KnL n rk len r i ls)(hi:i<n){p:Ph}(hp:s.phrases[i]?=some p)(hr:DV (inM (s.nexts f) i) ls n=true):Known ls n (p.its.strip.uses f)∧p.its.strip.sumF f (Dw ls) 0=len i:=by
 have hA:∀u∈p.its.strip.uses f,∃j:Nat,u=j∧j<n∧gi ls j=len j:=by
  intro u hu;obtain ⟨j,rfl,hj,_⟩:=h.ok.down i p hp u hu;rw [h.len_] at hj;refine ⟨j,rfl,hj,?_⟩
  have hm:inM (s.nexts f) i j=true:=by
   unfold inM;rw [E7 hp];exact decide_eq_true ((E6 _ _ _).2 (Or.inr hu))
  have:=EE.1 hr j hj hm;rcases hk.val j hj with h1|h1
  ·omega
  ·exact h1
 refine ⟨λu hu=>?_,?_⟩
 ·obtain ⟨j,rfl,hj,he⟩:=hA u hu
  have hb:=h.ok.bound j (by rw [h.len_];exact hj);exact ⟨j,rfl,hj,by rw [he];exact hb.1,by rw [he];exact hb.2⟩
 ·rw [h.ok.fix i p hp]
  refine Its.sumF_congr f _ _ _ 0 (λu hu=>?_);obtain ⟨j,rfl,hj,he⟩:=hA u hu;unfold Dw;rw [Int.toNat_natCast];exact he
theorem PhL.later{s:Ls}{f:Nm→Int}{rk:Nat→Nat}{len:Int→Int}{n r i:Nat}{ls:List Int}(h:PhL s f rk len n)(hk:KnL n rk len r i ls)(hi:i<n){p:Ph}(hp:s.phrases[i]?=some p)(hr:DV (inM (s.nexts f) i) ls n=false):¬rk i≤r:=by
 intro hB
 have:DV (inM (s.nexts f) i) ls n=true:=by
  rw [EE];intro k hA hm;unfold inM at hm;rw [E7 hp] at hm;have hu:=((E6 _ _ _).1 (of_decide_eq_true hm)).resolve_left (by simp);obtain ⟨j,hj,hC,hD⟩:=h.ok.down i p hp k hu;have:k=j:=by omega
  subst this;rw [hk.low k hA (by omega)];have:=h.ok.bound k (by rw [h.len_];exact hA);omega
 rw [this] at hr;cases hr
theorem EL(s:Ls)(f:Nm→Int)(rk:Nat→Nat)(len:Int→Int)(n:Nat)(w:World)(hA:s.At w)(hU:NumAt f w (Aw s.phrases))(hn:n≤999)(hL:PhL s f rk len n):Calls Tryz.prog 29 #[s.val] w (U0 len n w):=by
 obtain ⟨W0,ha,gB,b0,s0⟩:=Ag w s.cells 30;have hv:s.val=.agg s.cells:=rfl;rw [hv];have y10:W0.cell? ⟨w.heap.size,10,none⟩=some (.slice s.fa n s.fc):=by rw [← hL.len_];exact Aa gB 10 rfl
 have HX:=qh gB;have HA:=qh hA;have HU:=qh hU;have HB:=qh b0;have HL:=qh hL;have hc:=qh (λV (hV:Below w.heap.size w V)=>It s f V (hA.below hV) (hU.below hV) (by rw [hL.len_];exact hn) hL.uses);have hd:Hid (∀W1 W v,UzW W1 (CE s f) v W→IsMatB W v n (inM (s.nexts f))):=qh (λW1 W v h=>by rw [← hL.len_];exact h.mat hL.uses);have hI:=qh y10;have he:w.heap.size<W0.heap.size:=by omega
 unfold Ls.cells at ha ⊢;clear hA hU gB b0 hL hv s0 y10;have st0:True:=trivial;go_enter Tryz.func29,Tryz.ntmps29
 go_wp2_with (first|(have q:=st0;clear q st0;refine wpList_load_row rfl 30 _ rfl w.heap.size rfl 30 s.cells (0,0) _ HX.out Tryz.underlying30 rfl (by kernel_rfl) ?_;simp only [Act.put,qD,qE,qF])|(go_at_call 32;refine (hc.out _ HB.out).mono ?_;rintro e V2 ⟨v,W1',rfl,hb,hu⟩;have hD:=hd.out _ _ _ hu;have hF:=qh (Ad hb hu.below);have hg:=qh hD;obtain ⟨ao,cap,rfl,hf,hP⟩:=hD;have HF:=qh hf;have hh:=qh hP;clear hb hu hf hP;have hQ:=Jf n (by omega) V2;obtain ⟨W1,hJ⟩:∃W1,V2.alloc (.cells (Array.replicate n (int i64 0)) 3)=W1:=⟨_,rfl⟩;have hR:Hid (StS V2 V2.heap.size n (List.replicate n 0) W1):=qh (by rw [← hJ];exact ⟨BI.new V2 n,(Below.refl _ _).alloc (qn _) _,qn _,List.length_replicate⟩);rw [hJ] at hQ;clear hJ));obtain ⟨G,hM⟩:∃G,V2.heap.size=G:=⟨_,rfl⟩;rw [hM];rw [hM] at hR;have hl:Hid (w.heap.size≤G):=qh (by have:=hF.out.size;omega);clear hM hQ;go_loopw [5] (λiv wr=>∃(i:Nat) (l:List Int),iv=int i64 i∧i≤n∧Hid (StS V2 G n l wr)∧Hid (∀k:Nat,k<i→gi l k=-1)) (λiv _=>n+1-(intOf iv).toNat)
 case atStart=>exact ⟨0,_,rfl,Nat.zero_le _,hR,qh (λk h=>absurd h (Nat.not_lt_zero _))⟩
 case round =>
  obtain ⟨i,l,rfl,ho,hS,hm⟩:=hrel;by_cases hG:i<n
  ·have hi:(i:Int)<(n:Int):=by omega
   have y1:=hS.out.row.cell (j:=i) (by rw [hS.out.len];exact hG);have y2:=hS.out.row.free i;have hq:=qh (hS.out.set i (-1))
   have hr:Hid (∀k:Nat,k<i+1→gi (l.set i (-1)) k=-1):=qh (λk hk=>by
    rw [JM _ _ _ _ (by rw [hS.out.len];exact hG)]
    split
    ·rfl
    ·exact hm.out k (by omega))
   clear hS hm;go_wp2_with fail;go_roundw
   case rel=>exact ⟨i+1,_,by go_num,by omega,hq,hr⟩
   case measure=>simp [intOf];omega
  have:i=n:=by omega
  subst this;have hz:¬(i:Int)<(i:Int):=by omega
  have hT:Hid (KnL i rk len 0 0 l):=qh (KnL.begin hS.out.len hm.out);go_wp2_with fail;clear hz hG hm ho;go_loopw [6] (λrv wr=>∃(r:Nat) (l:List Int),rv=int i64 r∧r≤i∧Hid (StS V2 G i l wr)∧Hid (KnL i rk len r 0 l)) (λrv _=>i+1-(intOf rv).toNat)
  case atStart=>exact ⟨0,l,rfl,Nat.zero_le _,hS,hT⟩
  case round =>
   clear hS hT l;obtain ⟨r,l,rfl,h2,hS,hK⟩:=hrel;by_cases hG:r<i
   ·have hi:(r:Int)<(i:Int):=by omega
    go_wp2_with fail;go_loopw [7] (λjv wr=>∃(j:Nat) (l:List Int),jv=int i64 j∧j≤i∧Hid (StS V2 G i l wr)∧Hid (KnL i rk len r j l)) (λjv _=>i+1-(intOf jv).toNat)
    case atStart=>exact ⟨0,l,rfl,Nat.zero_le _,hS,hK⟩
    case round =>
     clear hS hK l;obtain ⟨j,l,rfl,h3,hS,hK⟩:=hrel;by_cases hB:j<i
     ·have hj:(j:Int)<(i:Int):=by omega
      have y1:=hS.out.row.cell (j:=j) (by rw [hS.out.len];exact hB);obtain ⟨p,hp⟩:∃p,s.phrases[j]?=some p:=⟨_,qg (by rw [HL.out.len_];exact hB)⟩;have HP:=qh hp;clear hp;rcases Di (gi l j<0) with u0|u0
      ·obtain ⟨R,r1,r2⟩:=hh.out j hB
       have x1:=Ac hS.out.below r1;have CR:=Ny R G i (inM (s.nexts f) j) l wr (λk hk=>Ac hS.out.below (r2 k hk)) hS.out.row hS.out.len hn;obtain ⟨rb,hN⟩:∃rb,DV (inM (s.nexts f) j) l i=rb:=⟨_,rfl⟩;rw [hN] at CR;have hW:=qh hN;have hX:=qh CR;have hs:=HF.out.resolve_left (by omega);clear r1 r2 hN CR;generalize ht:blk ao=bb at *;subst hs;clear ht HF
       cases rb with
       | false =>
        have hC:Hid (KnL i rk len r (j+1) l):=qh (hK.out.keep (λh=>absurd h (HL.out.later hK.out hB HP.out hW.out)))
        go_wp2_with (go_at_call 50;refine hX.out.mono ?_;rintro e w5 ⟨rfl,rfl⟩);go_roundw
        case rel=>exact ⟨j+1,l,by go_num,by omega,hS,hC⟩
        case measure=>simp [intOf];omega
       | true =>
        have hO:=Ad (Ad HB.out hF.out) hS.out.below;obtain ⟨hw,c1,p1,p2,p3,p4⟩:=PR (HA.out.below hO) (HU.out.below hO) HP.out;obtain ⟨hY,hE⟩:=HL.out.known hK.out hB HP.out hW.out;have CT:=Li f G i l (by unfold maxLen;omega) hS.out.len p.its.size p.its (qn _) (HL.out.kinds p (List.mem_of_getElem? HP.out)) (HL.out.ok.ex j p HP.out) hY p.ia p.ic wr p1 p2 p3 p4 hS.out.row;rw [hE] at CT;have yb:=Ac (Ad hF.out hS.out.below) hI.out;have hx:=qh CT;have hC:=qh (hK.out.put hB);clear hO p1 p2 p3 p4 hY hE CT;generalize hy:blk s.fa=bf at *;generalize h0:off s.fa=of_ at *;generalize h1:s.fa=fa at *;subst hw;clear hy h0 h1
        go_wp2_with (first|(go_at_call 50;refine hX.out.mono ?_;rintro e w5 ⟨rfl,rfl⟩)|(go_at_call 51;refine hx.out.mono ?_;rintro e w6 ⟨rfl,hZ⟩;have hH:=qh (hS.out.next hZ);have z1:=hH.out.row.cell (j:=j) (by rw [hH.out.len];exact hB);have z2:=hH.out.row.free j;clear hZ));go_roundw
        case rel=>exact ⟨j+1,_,by go_num,by omega,qh (hH.out.set j (len j)),hC⟩
        case measure=>simp [intOf];omega
      ·have hC:Hid (KnL i rk len r (j+1) l):=qh (hK.out.keep (λ_=>(hK.out.val j hB).resolve_left (by omega)))
       go_wp2_with fail;go_roundw
       case rel=>exact ⟨j+1,l,by go_num,by omega,hS,hC⟩
       case measure=>simp [intOf];omega
     ·have:j=i:=by omega
      subst this;have hz:¬(j:Int)<(j:Int):=by omega
      have hC:=qh hK.out.round;go_wp2_with fail;go_roundw
      case rel=>exact ⟨r+1,l,by go_num,by omega,hS,hC⟩
      case measure=>simp [intOf];omega
   ·have:r=i:=by omega
    subst this;have hz:¬(r:Int)<(r:Int):=by omega
    go_wp2_with fail;go_ret;exact ⟨G,l,rfl,hS.out.row,hS.out.len,λk hk=>hK.out.low k hk (HL.out.rank k hk),Ad (Ad HB.out hF.out) hS.out.below,hl.out⟩
def GS(s:Ls):Bool:=inB s.wd 1 1000&&(inB s.dp 1 1000&&(inB s.t0 1 127&&inB s.t1 0 s.t0))
def DT(s:Ls):Bool:=GS s&&s.roles.all (BK s)
theorem Du(b:Bool):b=false∨b=true:=by cases b<;>simp
theorem LZ(s:Ls)(w:World)(hA:s.At w)(hl:s.roles.length≤1000000):Calls Tryz.prog 25 #[s.val] w λe w'=>e=.returned (.bool (DT s))∧Below w.heap.size w w':=by
 obtain ⟨W1,hP,g1,b1,s1⟩:=Ag w s.cells 30;have hK:=hA.below b1;obtain ⟨res,hC⟩:∃r,DT s=r:=⟨_,rfl⟩;have hE:=qh hC;rw [hC];have HG:=qh g1;have HB:=qh b1;have hQ:=qh hK;clear hA hK hC g1 b1 s1;have hv:s.val=.agg s.cells:=rfl;rw [hv];have y1:W1.cell? ⟨w.heap.size,1,none⟩=some (int i64 s.wd):=Aa HG.out 1 rfl;have y2:W1.cell? ⟨w.heap.size,2,none⟩=some (int i64 s.dp):=Aa HG.out 2 rfl;have y4:W1.cell? ⟨w.heap.size,4,none⟩=some (int i64 s.t0):=Aa HG.out 4 rfl;have y5:W1.cell? ⟨w.heap.size,5,none⟩=some (int i64 s.t1):=Aa HG.out 5 rfl;have y6:W1.cell? ⟨w.heap.size,6,none⟩=some (.slice s.ra s.roles.length s.rc):=Aa HG.out 6 rfl;unfold Ls.cells at hP ⊢;clear hv;generalize hn:s.roles.length=n at *;have hL:=qh hn;clear hn;go_enter Tryz.func25,Tryz.ntmps25;rcases Du (inB s.wd 1 1000) with q0|q0
 ·have hF:res=false:=by rw [← hE.out];unfold DT GS;rw [q0];rfl
  subst hF
  go_wp2_with (go_at_call 30;refine (AG (by assumption) _).mono ?_;rintro e w' ⟨rfl,rfl⟩);go_ret;exact ⟨rfl,HB.out⟩
 rcases Du (inB s.dp 1 1000) with q1|q1
 ·have hF:res=false:=by rw [← hE.out];unfold DT GS;rw [q0,q1];rfl
  subst hF
  go_wp2_with (go_at_call 30;refine (AG (by assumption) _).mono ?_;rintro e w' ⟨rfl,rfl⟩);go_ret;exact ⟨rfl,HB.out⟩
 rcases Du (inB s.t0 1 127) with q2|q2
 ·have hF:res=false:=by rw [← hE.out];unfold DT GS;rw [q0,q1,q2];rfl
  subst hF
  go_wp2_with (go_at_call 30;refine (AG (by assumption) _).mono ?_;rintro e w' ⟨rfl,rfl⟩);go_ret;exact ⟨rfl,HB.out⟩
 rcases Du (inB s.t1 0 s.t0) with q3|q3
 ·have hF:res=false:=by rw [← hE.out];unfold DT GS;rw [q0,q1,q2,q3];rfl
  subst hF
  go_wp2_with (go_at_call 30;refine (AG (by assumption) _).mono ?_;rintro e w' ⟨rfl,rfl⟩);go_ret;exact ⟨rfl,HB.out⟩
 have hC:res=s.roles.all (BK s):=by rw [← hE.out];unfold DT GS;rw [q0,q1,q2,q3];rfl
 have HR:=qh hC;clear hC hE
 go_wp2_with (go_at_call 30;refine (AG (by assumption) _).mono ?_;rintro e w' ⟨rfl,rfl⟩);clear q0 q1 q2 q3 y4 y5;go_loopw [3] (λiv wr=>∃i:Nat,iv=int i64 i∧i≤n∧Hid (∀x∈s.roles.take i,BK s x=true)∧Hid (Below W1.heap.size W1 wr)) (λiv _=>n+1-(intOf iv).toNat)
 case atStart=>exact ⟨0,rfl,Nat.zero_le _,qh (by simp),qh (Below.refl _ _)⟩
 case round =>
  obtain ⟨i,rfl,hS,hM,hB⟩:=hrel;have z1:=Ac hB.out y1;have z2:=Ac hB.out y2;have z6:=Ac hB.out y6;clear y1 y2 y6;by_cases hR:i<n
  ·have hi:(i:Int)<(n:Int):=by omega
   obtain ⟨x,hx⟩:∃x,s.roles[i]?=some x:=⟨_,qg (by rw [hL.out];exact hR)⟩;obtain ⟨b,o,e,c0,c1,c2,c3⟩:=Jv (hQ.out.below hB.out) hx;obtain ⟨W2,hT,gW2,bW2,sW2⟩:=Ag wr #[sv x.name,int i64 x.x,int i64 x.y,int i64 x.face] 60;have u1:=Aa gW2 1 rfl;have u2:=Aa gW2 2 rfl;have u3:=Aa gW2 3 rfl;have v1:=Ac bW2 z1;have v2:=Ac bW2 z2;have HX:=qh hx;have hI:=qh (Ad hB.out bW2);generalize hN:s.ra=ra at *;subst e;have hU:=qh hN;clear hx gW2 bW2 sW2 hN;have hG:BK s x=(inB x.x 0 s.wd&&(inB x.y 0 s.dp&&inB x.face 0 7)):=rfl
   have hO:BK s x=false→res=false:=λhc=>by
    rw [HR.out,← Bool.not_eq_true,List.all_eq_true];intro h;rw [h x (List.mem_of_getElem? HX.out)] at hc;cases hc
   have hJ:=qh hO;have hD:=qh hG;clear hO hG;rcases Du (inB x.x 0 s.wd) with q0|q0
   ·have hF:res=false:=hJ.out (by rw [hD.out,q0];rfl)
    have HF:=qh hF;clear hF
    go_wp2_with (go_at_call 30;refine (AG (by assumption) _).mono ?_;rintro e w' ⟨rfl,rfl⟩);go_ret;exact ⟨by rw [HF.out];rfl,Ad HB.out hI.out⟩
   rcases Du (inB x.y 0 s.dp) with q1|q1
   ·have hF:res=false:=hJ.out (by rw [hD.out,q0,q1];rfl)
    have HF:=qh hF;clear hF
    go_wp2_with (go_at_call 30;refine (AG (by assumption) _).mono ?_;rintro e w' ⟨rfl,rfl⟩);go_ret;exact ⟨by rw [HF.out];rfl,Ad HB.out hI.out⟩
   rcases Du (inB x.face 0 7) with q2|q2
   ·have hF:res=false:=hJ.out (by rw [hD.out,q0,q1,q2];rfl)
    have HF:=qh hF;clear hF
    go_wp2_with (go_at_call 30;refine (AG (by assumption) _).mono ?_;rintro e w' ⟨rfl,rfl⟩);go_ret;exact ⟨by rw [HF.out];rfl,Ad HB.out hI.out⟩
   have HC:=qh (show BK s x=true by rw [hD.out,q0,q1,q2];rfl)
   go_wp2_with (go_at_call 30;refine (AG (by assumption) _).mono ?_;rintro e w' ⟨rfl,rfl⟩);go_roundw
   case rel=>exact ⟨i+1,by go_num,by omega,qh (Dt hM.out HX.out HC.out),hI⟩
   case measure=>simp [intOf];omega
  ·have:i=n:=by omega
   subst this;have hz:¬(i:Int)<(i:Int):=by omega
   have hH:res=true:=by rw [HR.out];exact List.all_eq_true.2 (λx hx=>hM.out x (by rw [List.take_of_length_le (by rw [hL.out];exact qn _)];exact hx))
   have HC:=qh hH;clear hH;go_wp2_with fail;go_ret;exact ⟨by rw [HC.out];rfl,Ad HB.out hB.out⟩
end
section
open Go Go.RowKit
open Go Go.RowKit Go.Deep
theorem CA(n lo hi:Int)(w:World):Calls Tryz.prog 45 #[int i64 n,int i64 lo,int i64 hi] w λe w'=>e=.returned (.bool (inB n lo hi))∧w'=w:=by
 go_enter Tryz.func45,Tryz.ntmps45;go_wp2
 all_goals
  go_ret;refine ⟨AT ?_,rfl⟩;unfold inB;rw [Bool.eq_iff_iff];simp;omega
structure ClkBox(w0:World)(g:Nat)(bars:Int)(vT vP vS:Value)(wr:World):Prop where
 below:Below w0.heap.size w0 wr
 c0:wr.cell? ⟨g,0,none⟩=some (int i64 bars)
 c1:wr.cell? ⟨g,1,none⟩=some vT
 c2:wr.cell? ⟨g,2,none⟩=some vP
 c3:wr.cell? ⟨g,3,none⟩=some vS
theorem ClkBox.make(w:World)(bars:Int)(vT vP vS:Value):ClkBox (w.alloc (.cells #[int i64 bars,vT,vP,vS] 63)) w.heap.size bars vT vP vS (w.alloc (.cells #[int i64 bars,vT,vP,vS] 63)):=by
 have g:=heap_alloc_new w (.cells #[int i64 bars,vT,vP,vS] 63);exact ⟨Below.refl _ _,Aa g 0 rfl,Aa g 1 rfl,Aa g 2 rfl,Aa g 3 rfl⟩
theorem ClkBox.next{w0:World}{g:Nat}{bars:Int}{vT vP vS:Value}{wr w2:World}(h:ClkBox w0 g bars vT vP vS wr)(hg:g<w0.heap.size)(hb:Below w0.heap.size wr w2):ClkBox w0 g bars vT vP vS w2 :=
 ⟨h.below.trans hb,(hb.cell (p:=⟨g,0,none⟩) hg).trans h.c0,(hb.cell (p:=⟨g,1,none⟩) hg).trans h.c1,(hb.cell (p:=⟨g,2,none⟩) hg).trans h.c2,(hb.cell (p:=⟨g,3,none⟩) hg).trans h.c3⟩
theorem M8(bars bar:Int)(b o n c:Nat)(vp vs:Value)(ts:List Tmp)(w:World)(hn:ts.length=n)(hm:n≤65536)(hr:AtRow DP 3 w b o ts)(hb:b<w.heap.size)(hw:GI ts bar) :
  Calls Tryz.prog 74 #[.agg #[int i64 bars,.slice (some ⟨b,o,none⟩) n c,vp,vs],int i64 bar] w λe w'=>e=.returned (int i64 (Bm ts bar))∧Below w.heap.size w w':=by
 obtain ⟨hs,hu,hR,hS,hC⟩:=hw;have hK:=FC ts bar;rw [hn] at hK;have hI:=ClkBox.make w bars (.slice (some ⟨b,o,none⟩) n c) vp vs;have hF:Below w.heap.size w (w.alloc (.cells #[int i64 bars,.slice (some ⟨b,o,none⟩) n c,vp,vs] 63)):=(Below.refl _ w).alloc (qn _) _;have HS:=qh hs;have HN:=qh hn;have HR:=qh (hr.below hF hb);have hG:=qh hC;have hE:=qh hF;clear hs hn hr hC hF;go_enter Tryz.func74,Tryz.ntmps74;go_wp2_with fail;generalize w.alloc (.cells #[int i64 bars,.slice (some ⟨b,o,none⟩) n c,vp,vs] 63)=w0 at *;have c1:=hI.c1;clear hI;go_loopw [5] (λkv wr=>∃k:Nat,kv=int i64 k∧k<Co ts bar∧wr=w0) (λkv _=>n-(intOf kv).toNat)
 case atStart=>exact ⟨0,rfl,hu,rfl⟩
 case round =>
  obtain ⟨k,rfl,hk,rfl⟩:=hrel;have hA:∀t∈ts,0≤t.bar∧t.bar≤4096∧-65536≤t.ticks∧t.ticks≤65536∧-65536≤t.step∧t.step≤65536:=hG.out
  have stop:(∀t',ts[k+1]?=some t'→bar<t'.bar)→∃t,ts[k]?=some t∧Bm ts bar=t.ticks+(bar-t.bar)*t.step:=λh=>by
   have ht:=qg (show k<ts.length by rw [HN.out];omega);exact ⟨_,ht,El ht (Ka HS.out ht ((Dj HS.out ht).2 hk) h)⟩
  obtain ⟨k1,hL⟩:∃x,k+1=x:=⟨_,rfl⟩;have hM:(k:Int)+1=(k1:Int):=by omega
  rw [hL] at stop
  have fin:(∀t',ts[k1]?=some t'→bar<t'.bar)→∃t:Tmp,(wr.cell? ⟨b,o+k*3,none⟩=some (int i64 t.bar)∧wr.cell? ⟨b,o+k*3+1,none⟩=some (int i64 t.ticks)∧wr.cell? ⟨b,o+k*3+2,none⟩=some (int i64 t.step))∧Bm ts bar=t.ticks+(bar-t.bar)*t.step∧(-268435456≤(bar-t.bar)*t.step∧(bar-t.bar)*t.step≤268435456)∧(0≤t.bar∧t.bar≤4096∧-65536≤t.ticks∧t.ticks≤65536):=λh=>by
   obtain ⟨t,h1,h2⟩:=stop h;have h3:=hA t (List.mem_of_getElem? h1);exact ⟨t,atT HR.out h1,h2,MF (by omega) (by omega) (by omega) (by omega),by omega⟩
  have HF:=qh fin;clear stop fin hA;have hT:(k:Int)<(n:Int):=by omega
  by_cases h1:k1<n
  ·have hN:(k1:Int)<(n:Int):=by omega
   have ht:=qg (show k1<ts.length by rw [HN.out];exact h1);obtain ⟨t1,hJ⟩:∃t,ts[k1]'(by rw [HN.out];exact h1)=t:=⟨_,rfl⟩;rw [hJ] at ht;obtain ⟨p0,_,_⟩:=atT HR.out ht;have hB:=Dj (bar:=bar) HS.out ht;have HT:=qh ht;clear ht hJ;by_cases h2:t1.bar≤bar
   ·have hO:k1<Co ts bar:=hB.1 h2
    clear hB HF HT;go_wp2_with fail;go_roundw
    case rel=>exact ⟨k1,by go_num,hO,trivial⟩
    case measure=>simp [intOf]<;>omega
   ·obtain ⟨t,⟨q0,q1,q2⟩,hD,hP,hQ⟩:=HF.out (λt' h=>by have h3:=h.symm.trans HT.out;injection h3 with h3;rw [h3];omega)
    have hH:=qh hD;have hU:¬t1.bar≤bar:=h2;clear hB HF HT hD;go_wp2_with fail;go_ret;exact ⟨by rw [hH.out];rfl,hE.out.alloc hE.out.size _⟩
  ·have hN:¬(k1:Int)<(n:Int):=by omega
   obtain ⟨t,⟨q0,q1,q2⟩,hD,hP,hQ⟩:=HF.out (λt' h=>by
    have:=(ql.1 h).1
    rw [HN.out] at this;omega)
   have hH:=qh hD;clear HF hD;go_wp2_with fail;go_ret;exact ⟨by rw [hH.out];rfl,hE.out.alloc hE.out.size _⟩
theorem On{α:Type}{f:α→Bool}{l:List α}{i:Nat}{x:α}(h:(l.take i).all f=true)(hx:l[i]?=some x)(hf:f x=true):(l.take (i+1)).all f=true:=by
 rw [List.take_add_one,hx,List.all_append,h];simp [hf]
theorem QN{α:Type}{f:α→Bool}{l:List α}{i:Nat}{x:α}(hx:l[i]?=some x)(hf:f x=false):l.all f=false:=by
 rw [Bool.eq_false_iff];intro h;have:=List.all_eq_true.1 h x (List.mem_of_getElem? hx);rw [hf] at this;cases this
theorem M6(bars:Int)(ha:1≤bars)(hb:bars≤4096)(vT vP:Value)(ss:List Con)(aS:Option Addr)(nS cS:Nat)(w:World)(hn:ss.length=nS)(hX:IsRow F9 4 w (.slice aS nS cS) ss) :
  Calls Tryz.prog 48 #[.agg #[int i64 bars,vT,vP,.slice aS nS cS]] w λe w'=>e=.returned (.bool (ss.all (Cs bars)))∧Below w.heap.size w w':=by
 have hR:nS≤maxLen:=by obtain ⟨_,_,_,h,_⟩:=hX;omega
 simp only [maxLen] at hR;obtain ⟨r,hr⟩:∃r,ss.all (Cs bars)=r:=⟨_,rfl⟩;rw [hr];have HR:=qh hr;clear hr;have hL:=ClkBox.make w bars vT vP (.slice aS nS cS);have hM:Below w.heap.size w (w.alloc (.cells #[int i64 bars,vT,vP,.slice aS nS cS] 63)):=(Below.refl _ w).alloc (qn _) _;have hS:w.heap.size<(w.alloc (.cells #[int i64 bars,vT,vP,.slice aS nS cS] 63)).heap.size:=by simp
 have HN:=qh hn;have HX:=qh hX;have hH:=qh hM;clear hn hX hM;go_enter Tryz.func48,Tryz.ntmps48;go_wp2_with fail;generalize w.alloc (.cells #[int i64 bars,vT,vP,.slice aS nS cS] 63)=w0 at *;have hN:=qh hL;clear hL;have hO:Hid ((ss.take 0).all (Cs bars)=true):=qh rfl;go_loopw [3] (λiv wr=>∃i:Nat,i≤nS∧iv=int i64 i∧Hid ((ss.take i).all (Cs bars)=true)∧Hid (ClkBox w0 w.heap.size bars vT vP (.slice aS nS cS) wr)) (λiv _=>nS-(intOf iv).toNat)
 case atStart=>exact ⟨0,Nat.zero_le _,rfl,hO,hN⟩
 case round =>
  clear hN hO;obtain ⟨i,hi,rfl,hA,hB⟩:=hrel;obtain ⟨hI,c0,c1,c2,c3⟩:=hB.out;have hE:=hH.out.trans (hI.mono hH.out.size);have hc:=qh hI;have hF:=qh hE;have hT:=hI.size;clear hI hE;by_cases hU:i<nS
  ·have hK:(i:Int)<(nS:Int):=by omega
   obtain ⟨s,hs⟩:∃s,ss[i]?=some s:=⟨_,qg (by rw [HN.out];exact hU)⟩;obtain ⟨b,o,hV,hP,hQ⟩:=HX.out.block hs;subst hV;obtain ⟨p0,p1,p2,p3⟩:=atC (hP.below hF.out hQ) hs;have hW:Hid (Cs bars s=true→(ss.take (i+1)).all (Cs bars)=true):=qh λh=>On hA.out hs h
   have hD:Hid (Cs bars s=false→r=false):=qh λh=>by rw [← HR.out];exact QN hs h
   have hG:Cs bars s=(inB s.frm 0 bars&&inB s.to 0 bars&&decide (s.frm≠s.to)&&inB s.lo (-1099511627776) s.hi&&decide (s.hi≤1099511627776)):=rfl;have HC:=qh hG;have hJ:=hB.out.next (w2:=wr.alloc (.cells #[int i64 s.frm,int i64 s.to,int i64 s.lo,int i64 s.hi] 126)) hS ((Below.refl _ _).alloc hT _)
   have x2:=heap_alloc_new wr (.cells #[int i64 s.frm,int i64 s.to,int i64 s.lo,int i64 s.hi] 126);have e0:=hJ.c0;clear hP hQ hs hA hB hG;go_wp2_with fail;generalize wr.alloc (.cells #[int i64 s.frm,int i64 s.to,int i64 s.lo,int i64 s.hi] 126)=w5 at *;have l0:w5.cell? ⟨wr.heap.size,0,none⟩=some (int i64 s.frm):=Aa x2 0 rfl;have l1:w5.cell? ⟨wr.heap.size,1,none⟩=some (int i64 s.to):=Aa x2 1 rfl;have l2:w5.cell? ⟨wr.heap.size,2,none⟩=some (int i64 s.lo):=Aa x2 2 rfl;have l3:w5.cell? ⟨wr.heap.size,3,none⟩=some (int i64 s.hi):=Aa x2 3 rfl;have hY:=qh hJ;have hC:=qh (hH.out.trans (hJ.below.mono hH.out.size));clear c0 c1 c2 c3 p0 p1 p2 p3 x2 hJ;generalize wr.heap.size=gw at *;refine (CA s.frm 0 bars _).mono ?_;rintro e w6 ⟨rfl,rfl⟩
   cases q0:inB s.frm 0 bars with
   | false =>
    have HF:=qh (hD.out (by rw [HC.out,q0];rfl));go_wp2_with fail;go_ret;exact ⟨by rw [HF.out];rfl,hC.out⟩
   | true =>
   have Q0:=qh q0;clear q0;go_wp2_with fail;refine (CA s.to 0 bars _).mono ?_;rintro e w7 ⟨rfl,rfl⟩
   cases q1:inB s.to 0 bars with
   | false =>
    have HF:=qh (hD.out (by rw [HC.out,q1];simp));go_wp2_with fail;go_ret;exact ⟨by rw [HF.out];rfl,hC.out⟩
   | true =>
   have Q1:=qh q1;clear q1;by_cases q2:s.frm=s.to
   ·have HF:=qh (hD.out (by rw [HC.out];simp [q2]))
    have q2':(s.frm==s.to)=true:=by simpa using q2
    clear q2;go_wp2_with fail;go_ret;exact ⟨by rw [HF.out];rfl,hC.out⟩
   have q2':(s.frm==s.to)=false:=by simpa using q2
   have Q2:=qh q2;clear q2;by_cases q3:s.lo < -1099511627776
   ·have HF:=qh (hD.out (by rw [HC.out,BH.2 (Or.inl q3)];simp))
    go_wp2_with fail;go_ret;exact ⟨by rw [HF.out];rfl,hC.out⟩
   by_cases q4:s.hi<s.lo
   ·have HF:=qh (hD.out (by rw [HC.out,BH.2 (Or.inr q4)];simp))
    go_wp2_with fail;go_ret;exact ⟨by rw [HF.out];rfl,hC.out⟩
   by_cases q5:1099511627776<s.hi
   ·have HF:=qh (hD.out (by rw [HC.out];simp;omega))
    go_wp2_with fail;go_ret;exact ⟨by rw [HF.out];rfl,hC.out⟩
   have hZ:=qh (hW.out (by rw [HC.out,Q0.out,Q1.out,decide_eq_true Q2.out,AR.2 (by omega),decide_eq_true (by omega)];rfl));go_wp2_with fail;go_roundw
   case rel=>exact ⟨i+1,by omega,by go_num,hZ,hY⟩
   case measure=>simp [intOf]<;>omega
  ·obtain rfl:i=nS:=by omega
   have hK:¬(i:Int)<(i:Int):=by omega
   have HF:Hid (r=true):=qh (by
    rw [← HR.out];have:=hA.out
    rwa [List.take_of_length_le (by rw [HN.out];exact qn _)] at this)
   clear hA hB;go_wp2_with fail;go_ret;exact ⟨by rw [HF.out];rfl,hF.out⟩
end
section
open Go Go.RowKit
open Go Go.RowKit Go.Deep
theorem LX(bars last:Int)(p:Pau)(r:List Pau):Bw bars last (p::r)=((inB p.bar (last+1) (bars-2)&&inB p.kind 1 2&&inB p.lo 0 p.hi&&decide (p.hi≤1048576))&&Bw bars p.bar r):=rfl
theorem Uz{w0:World}{g:Nat}{bars:Int}{vT vP vS:Value}{wr:World}(h:ClkBox w0 g bars vT vP vS wr)(q:Nat):ClkBox w0 g bars vT vP vS (wr.drewN q):=⟨Cq h.below q,h.c0,h.c1,h.c2,h.c3⟩
theorem L5(bars:Int)(h6:1≤bars)(h7:bars≤4096)(vT vS:Value)(ps:List Pau)(aP:Option Addr)(nP cP:Nat)(w:World)(hn:ps.length=nP)(hX:IsRow Fe 4 w (.slice aP nP cP) ps) :
  Calls Tryz.prog 47 #[.agg #[int i64 bars,vT,.slice aP nP cP,vS]] w λe w'=>e=.returned (.bool (Bw bars (-1) ps))∧Below w.heap.size w w':=by
 have ht:nP≤maxLen:=by obtain ⟨_,_,_,h,_⟩:=hX;omega
 simp only [maxLen] at ht;obtain ⟨r,hr⟩:∃r,Bw bars (-1) ps=r:=⟨_,rfl⟩;rw [hr];have HR:=qh hr;clear hr;have he:=ClkBox.make w bars vT (.slice aP nP cP) vS;have hf:Below w.heap.size w (w.alloc (.cells #[int i64 bars,vT,.slice aP nP cP,vS] 63)):=(Below.refl _ w).alloc (qn _) _;have hu:w.heap.size<(w.alloc (.cells #[int i64 bars,vT,.slice aP nP cP,vS] 63)).heap.size:=by simp
 have HN:=qh hn;have HX:=qh hX;have hQ:=qh hf;clear hn hX hf;go_enter Tryz.func47,Tryz.ntmps47;go_wp2_with fail;generalize w.alloc (.cells #[int i64 bars,vT,.slice aP nP cP,vS] 63)=w0 at *;have hg:=qh he;clear he;have hh:Hid (r=Bw bars (-1) (ps.drop 0)):=qh HR.out.symm;have hj:Hid (∀i0 p,0=i0+1→ps[i0]?=some p→p.bar=(-1:Int)):=qh λi0 p h=>by omega
 go_loopw [3] (λiv wr=>∃(i:Nat) (last:Int),i≤nP∧iv=int i64 i∧(i=0∧last=-1∨0<i∧0≤last)∧Hid (r=Bw bars last (ps.drop i))∧Hid (∀i0 p,i=i0+1→ps[i0]?=some p→p.bar=last)∧Hid (ClkBox w0 w.heap.size bars vT (.slice aP nP cP) vS wr)) (λiv _=>nP-(intOf iv).toNat)
 case atStart=>exact ⟨0,-1,Nat.zero_le _,rfl,Or.inl ⟨rfl,rfl⟩,hh,hj,hg⟩
 case round =>
  clear hg hh hj;obtain ⟨i,last,hi,rfl,hC,hA,hP,hB⟩:=hrel;obtain ⟨hR,c0,c1,c2,c3⟩:=hB.out;have hI:=hQ.out.trans (hR.mono hQ.out.size);have hv:=qh hR;have hJ:=qh hI;have hw:=hR.size;clear hR hI;by_cases hx:i<nP
  ·have hT:(i:Int)<(nP:Int):=by omega
   obtain ⟨p,hs⟩:∃s,ps[i]?=some s:=⟨_,qg (by rw [HN.out];exact hx)⟩;obtain ⟨b,o,hy,hU,hV⟩:=HX.out.block hs;subst hy;obtain ⟨p0,p1,p2,p3⟩:=atP (hU.below hJ.out hV) hs
   have hK:r=((inB p.bar (last+1) (bars-2)&&inB p.kind 1 2&&inB p.lo 0 p.hi&&decide (p.hi≤1048576))&&Bw bars p.bar (ps.drop (i+1))):=by
    rw [hA.out,F8 hs,LX]
   have hE:=qh hK
   have hL:Hid (∀i0 q,i+1=i0+1→ps[i0]?=some q→q.bar=p.bar):=qh λi0 q h1 h2=>by
    obtain rfl:i0=i:=by omega
    rw [hs] at h2;cases h2;rfl
   have hM:=hB.out.next (w2:=wr.alloc (.cells #[int i64 p.bar,int i64 p.kind,int i64 p.lo,int i64 p.hi] 124)) hu ((Below.refl _ _).alloc hw _)
   have x2:=heap_alloc_new wr (.cells #[int i64 p.bar,int i64 p.kind,int i64 p.lo,int i64 p.hi] 124)
   have hF:Hid (0<i→∀W,Below w.heap.size w W→∃i0:Nat,(i:Int)-1=(i0:Int)∧(i0:Int)<(nP:Int)∧W.cell? ⟨b,o+i0*4,none⟩=some (int i64 last)):=qh λh W hW=>by
    obtain ⟨i0,rfl⟩:∃i0,i=i0+1:=⟨i-1,by omega⟩;obtain ⟨q,hq⟩:∃s,ps[i0]?=some s:=⟨_,qg (by rw [HN.out];omega)⟩;refine ⟨i0,by omega,by omega,?_⟩;rw [← hP.out i0 q rfl hq];exact (atP (hU.below hW hV) hq).1
   have e0:=hM.c0;have e2:=hM.c2;clear hU hV hs hA hB hK hP;go_wp2_with fail;generalize wr.alloc (.cells #[int i64 p.bar,int i64 p.kind,int i64 p.lo,int i64 p.hi] 124)=w5 at *;have l0:w5.cell? ⟨wr.heap.size,0,none⟩=some (int i64 p.bar):=Aa x2 0 rfl;have l1:w5.cell? ⟨wr.heap.size,1,none⟩=some (int i64 p.kind):=Aa x2 1 rfl;have l2:w5.cell? ⟨wr.heap.size,2,none⟩=some (int i64 p.lo):=Aa x2 2 rfl;have l3:w5.cell? ⟨wr.heap.size,3,none⟩=some (int i64 p.hi):=Aa x2 3 rfl;have hz:=qh hM;have hD:=qh (hQ.out.trans (hM.below.mono hQ.out.size));clear c0 c1 c2 c3 p0 p1 p2 p3 x2 hM;generalize wr.heap.size=gw at *;have h8:IntKind.i64.wrap (bars-2)=bars-2:=IntWalk.i64_in _ (by omega);have HW:=qh (λW=>CA p.bar 0 (bars-2) W)
   have hN:(r=false∧(inB p.bar 0 (bars-2)=false∨(inB p.bar 0 (bars-2)=true∧0<i∧p.bar≤last)∨(inB p.bar 0 (bars-2)=true∧(i=0∨last<p.bar)∧¬p.kind=1∧¬p.kind=2)))∨(inB p.bar (last+1) (bars-2)=true∧inB p.bar 0 (bars-2)=true∧(i=0∨last<p.bar)∧(p.kind=1∨p.kind=2)):=by
    rw [hE.out];by_cases q1:inB p.bar 0 (bars-2)=true
    ·have q2:=AR.1 q1
     by_cases q3:0<i∧p.bar≤last
     ·exact Or.inl ⟨by rw [BH.2 (Or.inl (by omega))];rfl,Or.inr (Or.inl ⟨q1,q3⟩)⟩
     ·by_cases q4:p.kind=1∨p.kind=2
      ·exact Or.inr ⟨AR.2 (by omega),q1,by omega,q4⟩
      ·exact Or.inl ⟨by rw [BH.2 (show p.kind<1∨2<p.kind by omega)];simp,Or.inr (Or.inr ⟨q1,by omega,by omega,by omega⟩)⟩
    ·rw [Bool.not_eq_true] at q1
     refine Or.inl ⟨?_,Or.inl q1⟩;rw [BH] at q1;rw [BH.2 (by omega)];rfl
   rcases hN with ⟨rfl,hY⟩|⟨k1,k2,k3,k4⟩
   ·rcases hY with hq|⟨hq,hG,h9⟩|⟨hq,hk,hZ,ha⟩
    ·rw [hq] at HW
     clear hq hC hE hL;go_quiet (first|(go_at_call 45;refine Calls.quiet_of_same (HW.out _)));go_wp2_with fail;go_ret;exact ⟨rfl,Cq hD.out _⟩
    ·rw [hq] at HW
     obtain ⟨i0,hb,hH,pc⟩:=hF.out hG w5 hD.out;have hO:(0:Int)<(i:Int):=by omega
     have hc:IntKind.i64.wrap (i0:Int)=(i0:Int):=IntWalk.i64_in _ (by omega);clear hq hC hE hL hF;go_quiet (first|(go_at_call 45;refine Calls.quiet_of_same (HW.out _)));go_wp2_with fail;go_ret;exact ⟨rfl,Cq hD.out _⟩
    ·rw [hq] at HW
     have hS:(p.kind != 1)=true:=by simpa using hZ
     have hl:(p.kind != 2)=true:=by simpa using ha
     by_cases hG:0<i
     ·obtain ⟨i0,hb,hH,pc⟩:=hF.out hG w5 hD.out
      have hO:(0:Int)<(i:Int):=by omega
      have hc:IntKind.i64.wrap (i0:Int)=(i0:Int):=IntWalk.i64_in _ (by omega);have hm:¬p.bar≤last:=by omega
      clear hq hC hE hL hF hZ ha hk;go_quiet (first|(go_at_call 45;refine Calls.quiet_of_same (HW.out _)));go_wp2_with fail;go_ret;exact ⟨rfl,Cq hD.out _⟩
     ·have hO:¬(0:Int)<(i:Int):=by omega
      clear hq hC hE hL hF hZ ha hk;go_quiet (first|(go_at_call 45;refine Calls.quiet_of_same (HW.out _)));go_wp2_with fail;go_ret;exact ⟨rfl,Cq hD.out _⟩
   ·rw [k2] at HW
    have h0:(r=false∧((p.lo<0)∨(¬p.lo<0∧p.hi<p.lo)∨(¬p.lo<0∧¬p.hi<p.lo∧1048576<p.hi)))∨((¬p.lo<0∧¬p.hi<p.lo∧¬1048576<p.hi)∧r=Bw bars p.bar (ps.drop (i+1))):=by
     rw [hE.out,k1,AR.2 (show 1≤p.kind∧p.kind≤2 by omega)];by_cases q3:p.lo<0
     ·exact Or.inl ⟨by rw [BH.2 (Or.inl q3)];simp,Or.inl q3⟩
     by_cases q4:p.hi<p.lo
     ·exact Or.inl ⟨by rw [BH.2 (Or.inr q4)];simp,Or.inr (Or.inl ⟨q3,q4⟩)⟩
     by_cases q5:1048576<p.hi
     ·exact Or.inl ⟨by rw [decide_eq_false (show ¬p.hi≤1048576 by omega)];simp,Or.inr (Or.inr ⟨q3,q4,q5⟩)⟩
     ·exact Or.inr ⟨⟨q3,q4,q5⟩,by rw [AR.2 (show 0≤p.lo∧p.lo≤p.hi by omega),decide_eq_true (show p.hi≤1048576 by omega)];simp⟩
    have ho:((p.kind != 1)=false)∨((p.kind != 1)=true∧(p.kind != 2)=false):=by
     rcases k4 with h|h
     ·exact Or.inl (by rw [h];rfl)
     ·exact Or.inr ⟨by rw [h];rfl,by rw [h];rfl⟩
    have hp:(0<i∧¬p.bar≤last∧∃i0:Nat,(i:Int)-1=(i0:Int)∧(i0:Int)<(nP:Int)∧IntKind.i64.wrap (i0:Int)=(i0:Int)∧w5.cell? ⟨b,o+i0*4,none⟩=some (int i64 last))∨¬0<i:=by
     by_cases h:0<i
     ·obtain ⟨i0,a1,a2,a3⟩:=hF.out h w5 hD.out
      exact Or.inl ⟨by omega,by omega,i0,a1,a2,IntWalk.i64_in _ (by omega),a3⟩
     ·exact Or.inr (by omega)
    have h3:0≤p.bar:=by have:=AR.1 k2;omega
    have h4:=qh (λq=>Uz hz.out q);clear hE hF k1 k2 k3 k4 hC hv;rcases h0 with ⟨rfl,hq⟩|⟨⟨HA,HB,HC⟩,hK⟩
    ·rcases hp with ⟨hG,hm,i0,hb,hH,hc,pc⟩|hG<;>rcases ho with hS|⟨hS,hl⟩<;>rcases hq with hq|⟨h5,hq⟩|⟨h5,HD,hq⟩
     all_goals
      go_quiet (first|(go_at_call 45;refine Calls.quiet_of_same (HW.out _)));go_wp2_with fail;go_ret;exact ⟨rfl,Cq hD.out _⟩
    ·have hd:=qh hK
     clear hK;rcases hp with ⟨hG,hm,i0,hb,hH,hc,pc⟩|hG<;>rcases ho with hS|⟨hS,hl⟩
     all_goals
      go_quiet (first|(go_at_call 45;refine Calls.quiet_of_same (HW.out _)));go_wp2_with fail;go_roundw
      case rel=>exact ⟨i+1,p.bar,by omega,by go_num,Or.inr ⟨by omega,h3⟩,hd,hL,qh (h4.out _)⟩
      case measure=>simp [intOf]<;>omega
  ·obtain rfl:i=nP:=by omega
   have hT:¬(i:Int)<(i:Int):=by omega
   have HF:Hid (r=true):=qh (by
    have:=hA.out;rw [List.drop_of_length_le (by rw [HN.out];exact qn _)] at this
    rw [this];rfl)
   clear hA hB;go_wp2_with fail;go_ret;exact ⟨by rw [HF.out];rfl,hJ.out⟩
end
end Go.Proofs.YtpnbpepkoekkoaaGreat
