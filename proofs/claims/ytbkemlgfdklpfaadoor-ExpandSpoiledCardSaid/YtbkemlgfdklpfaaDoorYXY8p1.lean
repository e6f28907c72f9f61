/- The walk of the statement: part 1. -/
import Derived.Test.YtbkemlgfdklpfaaDoorZ41
import Derived.Test.YtbkemlgfdklpfaaDoorZ42
import Derived.Test.YtbkemlgfdklpfaaDoorZ35
import Derived.Deep.MidRow
import Derived.Test.YtbkemlgfdklpfaaDoorZ4
set_option linter.unusedVariables false
set_option linter.unusedSimpArgs false
set_option maxRecDepth 100000
set_option maxHeartbeats 16000000
namespace Go.Proofs.YtbkemlgfdklpfaaDoor
open Go.Value (int)
open Go.IntKind (i64)
section
open Go Go.RowKit
def H9(roles bars:Int)(c:Nat)(x:Sgn):Sgn:=match c with
 | 0=>{ x with role:=roles }
 | 1=>{ x with bar:=bars }
 | 2=>{ x with mark:=4 }
 | 3=>{ x with kind:=10 }
 | 4=>{ x with side:=3 }
 | 5=>{ x with dir:=9 }
 | 6=>{ x with level:=4 }
 | 7=>{ x with size:=17 }
 | 8=>{ x with wth:=roles+1 }
 | 9=>{ x with tn:=x.fn,td:=x.fd }
 | _=>{ x with fn:=0,fd:=0 }
theorem Hq{x:Sgn}{roles:Int}(hr:0≤roles)(h:x.side=3∨x.dir=9∨x.level=4∨x.size=17∨x.wth=roles+1):JT x roles=false:=by
 cases x with
 | mk x0 x1 x2 x3 x4 x5 x6 x7 x8 x9 xa xb xc xd =>
 simp only at h;unfold JT inB;simp only
 repeat' split
 all_goals (first|rfl|(rw [← Bool.not_eq_true];simp only [Bool.and_eq_true,decide_eq_true_eq];omega))
theorem H6{roles bars:Int}(hr:0≤roles)(c:Nat)(x:Sgn):Fc (H9 roles bars c x) roles bars=false:=by
 have hf:∀y:Sgn,JT y roles=false→Fc y roles bars=false:=λy h=>by unfold Fc;rw [h];simp
 have hs:∀y:Sgn,ST y=false→Fc y roles bars=false:=λy h=>by unfold Fc;rw [h];simp
 have hi:∀a b c:Int,c<a→inB a b c=false:=λa b c h=>by unfold inB;rw [decide_eq_false (by omega:¬a≤c)];simp
 match c with
 | 0=>unfold Fc H9;simp only;rw [hi roles 0 _ (by omega)];simp
 | 1=>unfold Fc H9;simp only;rw [hi bars 0 _ (by omega)];simp
 | 2=>unfold Fc H9;simp only;rw [hi 4 1 3 (by omega)];simp
 | 3=>unfold Fc H9;simp only;rw [hi 10 1 9 (by omega)];simp
 | 4=>exact hf _ (Hq hr (Or.inl rfl))
 | 5=>exact hf _ (Hq hr (Or.inr (Or.inl rfl)))
 | 6=>exact hf _ (Hq hr (Or.inr (Or.inr (Or.inl rfl))))
 | 7=>exact hf _ (Hq hr (Or.inr (Or.inr (Or.inr (Or.inl rfl)))))
 | 8=>exact hf _ (Hq hr (Or.inr (Or.inr (Or.inr (Or.inr rfl)))))
 | 9=>refine hs _ ?_;unfold ST H9;simp only;rw [decide_eq_false (by omega:¬x.fn*x.fd<x.fn*x.fd)];simp
 | c+10=>refine hs _ ?_;unfold ST H9 Bs;simp only;rw [show inB 0 1 1073741824=false from rfl];simp
theorem Hr{w:Wrk}{ss:List Sgn}(h:Dj w=0)(hl:ss.length≤4096)(hb:BZ w.roles.length w.clock.bars (-1) ss=false):Dj { w with signs:=ss }=190:=by
 obtain ⟨h1,h2,h3⟩:=JG h;unfold Fj at h1;simp only [Bool.and_eq_true,decide_eq_true_eq] at h1;unfold Dj Fj GG;simp only;rw [decide_eq_true h1.1,decide_eq_true hl,hb,h2];simp
theorem H7{w:Wrk}(h:Dj w=0){i:Nat}{y:Sgn}(hi:i<w.signs.length)(hy:Fc y w.roles.length w.clock.bars=false):Dj { w with signs:=w.signs.set i y }=190:=by
 have h1:=(JG h).1;unfold Fj at h1;simp only [Bool.and_eq_true,decide_eq_true_eq] at h1;refine Hr h (by simpa using h1.2) ?_;rw [← Bool.not_eq_true];intro hs
 have:=FI hs y (by
  rw [List.mem_iff_getElem]
  exact ⟨i,by simpa using hi,by simp⟩)
 rw [hy] at this;cases this
theorem VS{w:Wrk}(h:Dj w=0){x:Sgn}(hx:x∈w.signs)(hl:(w.signs++[x]).length≤4096):Dj { w with signs:=w.signs++[x] }=190:=by
 refine Hr h hl ?_;rw [← Bool.not_eq_true];intro hs;have:=(List.pairwise_append.1 (Gw hs)).2.2 x hx x (by simp);omega
end
section
open Go Go.RowKit Go.Shelf Go.Deep
structure WkRows(aR aT aP aX aS:Option Addr)(cR cT cP cX cS:Nat)(rs:List Rol)(ts:List Tmp)(ps:List Pau)(xs:List Con)(ss:List Sgn)(W:World):Prop where
 roles:IsRow CZ 4 W (.slice aR rs.length cR) rs
 tempos:IsRow BU 3 W (.slice aT ts.length cT) ts
 pauses:IsRow Cg 4 W (.slice aP ps.length cP) ps
 spans:IsRow Cf 4 W (.slice aX xs.length cX) xs
 signs:IsRow AC 14 W (.slice aS ss.length cS) ss
theorem WkRows.below{aR aT aP aX aS:Option Addr}{cR cT cP cX cS:Nat}{rs:List Rol}{ts:List Tmp}{ps:List Pau}{xs:List Con}{ss:List Sgn}{W V:World}(h:WkRows aR aT aP aX aS cR cT cP cX cS rs ts ps xs ss W)(hb:Below W.heap.size W V):WkRows aR aT aP aX aS cR cT cP cX cS rs ts ps xs ss V :=
 ⟨h.roles.below hb (qn _),h.tempos.below hb (qn _),h.pauses.below hb (qn _),h.spans.below hb (qn _),h.signs.below hb (qn _)⟩
theorem Hz(w:World)(B:Nat)(e:TypeId)(size:Nat)(hB:B≤w.heap.size):(w.alloc (.cells #[] e)).ownsRow B e size (.slice (some ⟨w.heap.size,0,none⟩) 0 0) 0 [] :=
 ⟨by simp,Or.inr ⟨w.heap.size,0,#[],rfl,hB,heap_alloc_new w _,qn _,Nat.zero_le _,by simp,by simp⟩⟩
theorem VQ{w:World}{B e k n:Nat}{v:Value}{xs:List Value}(h:w.ownsRow B e k v n xs)(hv:∃g,v.ownBlock=some g):∃g c,v=.slice (some ⟨g,0,none⟩) n c∧B≤g∧FreeB w g∧∀j u,xs[j]?=some u→w.cell? ⟨g,j,none⟩=some u:=by
 rcases h.2 with ⟨rfl,rfl⟩|⟨g,cap,cur,rfl,hg,hh,_⟩
 ·obtain ⟨g,hg⟩:=hv;cases hg
 ·refine ⟨g,cap,rfl,hg,⟨cur,_,hh⟩,λj u hj=>?_⟩
  have:=h.cells (g:=g) rfl j u hj;rw [Bn,Nat.zero_add] at this;exact this
theorem VR(ss:List Sgn):∀u∈ss.flatMap AC,u.oneCell'=true:=λu hu=>by
 obtain ⟨s,_,hs⟩:=List.mem_flatMap.1 hu;exact Nk s u hs
theorem Hy{W:World}{G c:Nat}{ss:List Sgn}(h:RowV AC W G ss)(hm:ss.length≤maxLen)(hg:G<W.heap.size):IsRow AC 14 W (.slice (some ⟨G,0,none⟩) ss.length c) ss :=
 ⟨_,_,rfl,hm,Or.inr ⟨G,0,rfl,(Es I7).2 λj u hj=>by rw [Nat.zero_add];exact h j u hj,hg⟩⟩
structure SpW(w:World)(X G n c:Nat)(cs:Array Value)(ss:List Sgn)(W:World):Prop where
 base:Below w.heap.size w W
 x:W.heap[X]?=some (.cells cs 32 (0,0))
 row:RowV AC W G ss
 free:FreeB W G
 len:ss.length=n
 lowX:w.heap.size≤X
 lowG:w.heap.size≤G
 ne:X≠G
theorem Hw(wd dp ta tb tc bars:Int)(aR aT aP aX aS:Option Addr)(cR cT cP cX cS:Nat)(rs:List Rol)(ts:List Tmp)(ps:List Pau)(xs:List Con)(ss:List Sgn)(n1 n2:Nat)(w:World)(hW:WkRows aR aT aP aX aS cR cT cP cX cS rs ts ps xs ss w)(hE:∀V,Below w.heap.size w V→Env V∧EnvK V)(hf:Tr ⟨wd,dp,ta,tb,tc,rs,⟨bars,ts,ps,xs⟩,ss⟩=false) :
  Calls Tryd.prog 4 #[.agg #[int i64 wd,int i64 dp,int i64 ta,int i64 tb,int i64 tc,.slice aR rs.length cR,int i64 bars,.slice aT ts.length cT,.slice aP ps.length cP,.slice aX xs.length cX,.slice aS ss.length cS],.int .u8 n1,.int .u8 n2] w λe w'=>e=.returned (.bool true)∧Below w.heap.size w w':=by
 have FW:=λV=>UT wd dp ta tb tc bars aR aT aP aX aS cR cT cP cX cS rs ts ps xs ss V
 have CK:=λ(V:World) (hv:Below w.heap.size w V)=>DZ wd dp ta tb tc bars aR aT aP aX aS cR cT cP cX cS rs ts ps xs ss V (hE V hv).2 (hW.below hv).roles (hW.below hv).tempos (hW.below hv).pauses (hW.below hv).spans (hW.below hv).signs
 have HW:=qh hW;have HE:=qh hE;clear hW hE;rw [hf] at FW;clear hf;obtain ⟨nS,hA⟩:∃n,ss.length=n:=⟨_,rfl⟩;rw [hA] at FW CK ⊢;have hD:=qh hA;clear hA;obtain ⟨A0,xA0,gA0,bA0,sA0⟩:=Af w #[int i64 wd,int i64 dp,int i64 ta,int i64 tb,int i64 tc,.slice aR rs.length cR,int i64 bars,.slice aT ts.length cT,.slice aP ps.length cP,.slice aX xs.length cX,.slice aS nS cS] 32;obtain ⟨X3,hB⟩:∃X,w.heap.size=X:=⟨_,rfl⟩;rw [hB] at gA0;have HX:=qh gA0;have HB:=qh bA0;have hC:=qh FW;have hF:=qh CK;clear gA0 bA0 sA0 FW CK;have st0:True:=trivial;go_enter Tryd.func4,Tryd.ntmps4
 go_wp2_with (first
  | (have q:=st0;clear q;go_at_call 5;refine (Uj _ (λV hV=>HE.out V (Ag HB.out hV))).mono ?_;rintro e V1 ⟨rfl,hb⟩;have T1:=qh (Ag HB.out hb);clear HB;have HB:=T1;clear T1;have T1:=qh (Ah hb HX.out);clear HX;have HX:=T1;clear T1;clear hb;clear st0;have st1:True:=trivial)
  | (have q:=st1;clear q;refine wpList_load_row rfl 32 _ rfl X3 rfl 32 #[int i64 wd,int i64 dp,int i64 ta,int i64 tb,int i64 tc,.slice aR rs.length cR,int i64 bars,.slice aT ts.length cT,.slice aP ps.length cP,.slice aX xs.length cX,.slice aS nS cS] (0,0) _ HX.out Tryd.underlying32 rfl (by kernel_rfl) ?_;simp only [Act.put,qD,qE,qF];clear st1;have st2:True:=trivial)
  | (have q:=st2;clear q;go_at_call 6;refine (hC.out _).mono ?_;rintro e V2 ⟨rfl,hb⟩;have T1:=qh (Ag HB.out hb);clear HB;have HB:=T1;clear T1;have T1:=qh (Ah hb HX.out);clear HX;have HX:=T1;clear T1;clear hb;have y10:V2.cell? ⟨X3,10,none⟩=some (.slice aS nS cS):=Aa HX.out 10 rfl;clear st2;have st3:True:=trivial))
 go_ret;exact ⟨rfl,HB.out⟩
theorem Hx(wd dp ta tb tc bars:Int)(aR aT aP aX aS:Option Addr)(cR cT cP cX cS:Nat)(rs:List Rol)(ts:List Tmp)(ps:List Pau)(xs:List Con)(ss:List Sgn)(n1 n2:Nat)(w:World)(hW:WkRows aR aT aP aX aS cR cT cP cX cS rs ts ps xs ss w)(hE:∀V,Below w.heap.size w V→Env V∧EnvK V)(hf:Tr ⟨wd,dp,ta,tb,tc,rs,⟨bars,ts,ps,xs⟩,ss⟩=true)(hn:ss.length=0) :
  Calls Tryd.prog 4 #[.agg #[int i64 wd,int i64 dp,int i64 ta,int i64 tb,int i64 tc,.slice aR rs.length cR,int i64 bars,.slice aT ts.length cT,.slice aP ps.length cP,.slice aX xs.length cX,.slice aS ss.length cS],.int .u8 n1,.int .u8 n2] w λe w'=>e=.returned (.bool true)∧Below w.heap.size w w':=by
 have FW:=λV=>UT wd dp ta tb tc bars aR aT aP aX aS cR cT cP cX cS rs ts ps xs ss V
 have CK:=λ(V:World) (hv:Below w.heap.size w V)=>DZ wd dp ta tb tc bars aR aT aP aX aS cR cT cP cX cS rs ts ps xs ss V (hE V hv).2 (hW.below hv).roles (hW.below hv).tempos (hW.below hv).pauses (hW.below hv).spans (hW.below hv).signs
 have HW:=qh hW;have HE:=qh hE;clear hW hE;rw [hf] at FW;clear hf;obtain ⟨nS,hA⟩:∃n,ss.length=n:=⟨_,rfl⟩;rw [hA] at FW CK ⊢;have hD:=qh hA;rw [hA] at hn;clear hA;subst hn;obtain ⟨A0,xA0,gA0,bA0,sA0⟩:=Af w #[int i64 wd,int i64 dp,int i64 ta,int i64 tb,int i64 tc,.slice aR rs.length cR,int i64 bars,.slice aT ts.length cT,.slice aP ps.length cP,.slice aX xs.length cX,.slice aS 0 cS] 32;obtain ⟨X3,hB⟩:∃X,w.heap.size=X:=⟨_,rfl⟩;rw [hB] at gA0;have HX:=qh gA0;have HB:=qh bA0;have hC:=qh FW;have hF:=qh CK;clear gA0 bA0 sA0 FW CK;have st0:True:=trivial;go_enter Tryd.func4,Tryd.ntmps4
 go_wp2_with (first
  | (have q:=st0;clear q;go_at_call 5;refine (Uj _ (λV hV=>HE.out V (Ag HB.out hV))).mono ?_;rintro e V1 ⟨rfl,hb⟩;have T1:=qh (Ag HB.out hb);clear HB;have HB:=T1;clear T1;have T1:=qh (Ah hb HX.out);clear HX;have HX:=T1;clear T1;clear hb;clear st0;have st1:True:=trivial)
  | (have q:=st1;clear q;refine wpList_load_row rfl 32 _ rfl X3 rfl 32 #[int i64 wd,int i64 dp,int i64 ta,int i64 tb,int i64 tc,.slice aR rs.length cR,int i64 bars,.slice aT ts.length cT,.slice aP ps.length cP,.slice aX xs.length cX,.slice aS 0 cS] (0,0) _ HX.out Tryd.underlying32 rfl (by kernel_rfl) ?_;simp only [Act.put,qD,qE,qF];clear st1;have st2:True:=trivial)
  | (have q:=st2;clear q;go_at_call 6;refine (hC.out _).mono ?_;rintro e V2 ⟨rfl,hb⟩;have T1:=qh (Ag HB.out hb);clear HB;have HB:=T1;clear T1;have T1:=qh (Ah hb HX.out);clear HX;have HX:=T1;clear T1;clear hb;have y10:V2.cell? ⟨X3,10,none⟩=some (.slice aS 0 cS):=Aa HX.out 10 rfl;clear st2;have st3:True:=trivial))
 go_ret;exact ⟨rfl,HB.out⟩
theorem Hv(wd dp ta tb tc bars:Int)(aR aT aP aX aS:Option Addr)(cR cT cP cX cS:Nat)(rs:List Rol)(ts:List Tmp)(ps:List Pau)(xs:List Con)(ss:List Sgn)(n1 n2:Nat)(w:World)(hW:WkRows aR aT aP aX aS cR cT cP cX cS rs ts ps xs ss w)(hE:∀V,Below w.heap.size w V→Env V∧EnvK V)(hf:Tr ⟨wd,dp,ta,tb,tc,rs,⟨bars,ts,ps,xs⟩,ss⟩=true)(hn:¬ss.length=0)(c:Int)(hc:Dj ⟨wd,dp,ta,tb,tc,rs,⟨bars,ts,ps,xs⟩,ss⟩=c)(hB:¬c=0) :
  Calls Tryd.prog 4 #[.agg #[int i64 wd,int i64 dp,int i64 ta,int i64 tb,int i64 tc,.slice aR rs.length cR,int i64 bars,.slice aT ts.length cT,.slice aP ps.length cP,.slice aX xs.length cX,.slice aS ss.length cS],.int .u8 n1,.int .u8 n2] w λe w'=>e=.returned (.bool true)∧Below w.heap.size w w':=by
 have FW:=λV=>UT wd dp ta tb tc bars aR aT aP aX aS cR cT cP cX cS rs ts ps xs ss V
 have CK:=λ(V:World) (hv:Below w.heap.size w V)=>DZ wd dp ta tb tc bars aR aT aP aX aS cR cT cP cX cS rs ts ps xs ss V (hE V hv).2 (hW.below hv).roles (hW.below hv).tempos (hW.below hv).pauses (hW.below hv).spans (hW.below hv).signs
 have HW:=qh hW;have HE:=qh hE;clear hW hE;rw [hf] at FW;rw [hc] at CK;clear hf hc;obtain ⟨nS,hA⟩:∃n,ss.length=n:=⟨_,rfl⟩;rw [hA] at FW CK ⊢;have hH:=qh hA;rw [hA] at hn;clear hA;have hC:¬(nS:Int)=0:=by omega
 have hI:((nS:Int)==0)=false:=by simpa using hC
 have hJ:(c==0)=false:=by simpa using hB
 obtain ⟨A0,xA0,gA0,bA0,sA0⟩:=Af w #[int i64 wd,int i64 dp,int i64 ta,int i64 tb,int i64 tc,.slice aR rs.length cR,int i64 bars,.slice aT ts.length cT,.slice aP ps.length cP,.slice aX xs.length cX,.slice aS nS cS] 32;obtain ⟨X3,hD⟩:∃X,w.heap.size=X:=⟨_,rfl⟩;rw [hD] at gA0;have HX:=qh gA0;have HB:=qh bA0;have hF:=qh FW;have hG:=qh CK;clear gA0 bA0 sA0 FW CK;have st0:True:=trivial;go_enter Tryd.func4,Tryd.ntmps4
 go_wp2_with (first
  | (have q:=st0;clear q;go_at_call 5;refine (Uj _ (λV hV=>HE.out V (Ag HB.out hV))).mono ?_;rintro e V1 ⟨rfl,hb⟩;have T1:=qh (Ag HB.out hb);clear HB;have HB:=T1;clear T1;have T1:=qh (Ah hb HX.out);clear HX;have HX:=T1;clear T1;clear hb;clear st0;have st1:True:=trivial)
  | (have q:=st1;clear q;refine wpList_load_row rfl 32 _ rfl X3 rfl 32 #[int i64 wd,int i64 dp,int i64 ta,int i64 tb,int i64 tc,.slice aR rs.length cR,int i64 bars,.slice aT ts.length cT,.slice aP ps.length cP,.slice aX xs.length cX,.slice aS nS cS] (0,0) _ HX.out Tryd.underlying32 rfl (by kernel_rfl) ?_;simp only [Act.put,qD,qE,qF];clear st1;have st2:True:=trivial)
  | (have q:=st2;clear q;go_at_call 6;refine (hF.out _).mono ?_;rintro e V2 ⟨rfl,hb⟩;have T1:=qh (Ag HB.out hb);clear HB;have HB:=T1;clear T1;have T1:=qh (Ah hb HX.out);clear HX;have HX:=T1;clear T1;clear hb;have y10:V2.cell? ⟨X3,10,none⟩=some (.slice aS nS cS):=Aa HX.out 10 rfl;clear st2;have st3:True:=trivial)
  | (have q:=st3;clear q;refine Du (by kernel_rfl) 32 _ rfl X3 rfl 32 #[int i64 wd,int i64 dp,int i64 ta,int i64 tb,int i64 tc,.slice aR rs.length cR,int i64 bars,.slice aT ts.length cT,.slice aP ps.length cP,.slice aX xs.length cX,.slice aS nS cS] (0,0) _ HX.out Tryd.underlying32 rfl (by kernel_rfl) ?_;simp only [Act.put,qD,qE,qF];clear st3;have st4:True:=trivial)
  | (have q:=st4;clear q;go_at_call 7;refine (hG.out _ HB.out).mono ?_;rintro e V3 ⟨rfl,hb⟩;have T1:=qh (Ag HB.out hb);clear HB;have HB:=T1;clear T1;have T1:=qh (Ah hb HX.out);clear HX;have HX:=T1;clear T1;clear hb y10;clear st4;have st5:True:=trivial))
 go_ret;exact ⟨rfl,HB.out⟩
theorem Hs{o:Oper}{a:Act}{K:Act→World→Prop}{Q:Exit→Act→World→Prop}{w:World}(s x:Operand)(t:TypeId)
  (ho:o.op=.call { callee:=.builtin .append,args:=#[s,x],argTypes:=#[t,t] })
  (base:Nat) (e:TypeId) (i:TypeInfo) (z:Value) (size bytes:Nat) (ht:Tryd.prog.underlying t=some (.slice e)) (hi:Tryd.prog.info? e=some i) (hz:i.zero=some z)
  (hB:i.size=size) (hF:i.bytes=bytes) (hG:z.cells.size=size) (hH:0<size)
  (v:Value) (n:Nat) (xs:List Value) (hs:a.eval s=v) (hE:w.ownsRow base e size v n xs)
  (ad:Addr) (m c:Nat) (news:List Value) (hx:a.eval x=.slice (some ad) m c) (hl:news.length=m*size) (hC:∀j u,news[j]?=some u→w.cell? (ad.add j)=some u) (h1:∀u∈news,u.oneCell'=true)
  (hI:n+m≤maxLen) (hA:(n+m)*bytes≤140737488355328) (hD:base≤w.heap.size)
  (h:∀v' w',w'.ownsRow base e size v' (n+m) (xs++news)→w.grownBy w' v.ownBlock→(v'.ownBlock=v.ownBlock∨v'.ownBlock=some w.heap.size)→K (a.put o.dst v') w'):o.wp Tryd.prog a w K Q:=by
 obtain ⟨v',w',hr,h2,h3,_,h4⟩:=run_append_own_at (P:=Tryd.prog) w base t o.type e i z size bytes ht hi hz hB hF hG hH v n xs hE ad m c news hl hC h1 hI hA hD;unfold Oper.wp execOp;simp only [ho,resolve,invoke,builtin,Sem.run_bind,Sem.run_pure,Result.andThen_ok,List.map_toArray,List.map_cons,List.map_nil,hs,hx,hr];exact h v' w' h2 h3 h4
theorem SpW.drew{w:World}{X G n c:Nat}{cs:Array Value}{ss:List Sgn}{W:World}(h:SpW w X G n c cs ss W):SpW w X G n c cs ss W.drew:=⟨h.base.trans (Below.refl _ _).drew,h.x,h.row,h.free,h.len,h.lowX,h.lowG,h.ne⟩
theorem SpW.set{w:World}{X G n c:Nat}{cs:Array Value}{ss:List Sgn}{W:World}(h:SpW w X G n c cs ss W){i f:Nat}{x y:Sgn}{v:Value}(hx:ss[i]?=some x)(hf:f<14)(he:AC y=(AC x).set f v):SpW w X G n c cs (ss.set i y) (W.setCell ⟨G,i*14+f,none⟩ v):=by
 have hi:=(ql.1 hx).1;have hc:∀r u,(AC x)[r]?=some u→W.cell? ⟨G,i*14+r,none⟩=some u:=λr u hr=>h.row.get I7 hx hr
 refine ⟨h.base.setCell (p:=⟨G,i*14+f,none⟩) h.lowG _,(Bd _ h.ne).trans h.x,h.row.set I7 hi (λr u hr=>?_) (λq u hq hu=>Ac hu (Au (Or.inr (by omega)))),h.free.set _ _,by simpa using h.len,h.lowX,h.lowG,h.ne⟩;rw [he,List.getElem?_set] at hr;by_cases e:f=r
 ·subst e
  rw [if_pos rfl,if_pos (by rw [I7];exact hf)] at hr;cases hr;exact World.cell?_setCell_same _ _ _ (hc f _ (qg (by rw [I7];exact hf)))
 ·rw [if_neg e] at hr
  exact Ac (hc r u hr) (Au (Or.inr (by omega)))
theorem VU{W:World}{ao:Option Addr}{n c:Nat}{ss:List Sgn}(h:IsRow AC 14 W (.slice ao n c) ss):(ss.flatMap AC).length=ss.length*14∧(ao=none→ss.length=0)∧∀ad,ao=some ad→∀j u,(ss.flatMap AC)[j]?=some u→W.cell? (ad.add j)=some u:=by
 refine ⟨Fs I7 ss,?_,?_⟩
 ·intro hn
  obtain ⟨g,o,h1,_⟩:=h.parts;rcases h1 with h1|h1
  ·rw [h1];rfl
  ·rw [hn] at h1;cases h1
 ·intro ad ha j u hj
  obtain ⟨i,x,r,h3,h4,rfl,h5⟩:=I9 I7 hj;obtain ⟨b,o,e,hA,_⟩:=h.block h3;rw [ha] at e;cases e;rw [Bn,← Nat.add_assoc];exact hA i x h3 r u h4
theorem VT(wd dp ta tb tc bars:Int)(aR aT aP aX aS:Option Addr)(cR cT cP cX cS:Nat)(rs:List Rol)(ts:List Tmp)(ps:List Pau)(xs:List Con)(ss:List Sgn)(w:World)(hW:WkRows aR aT aP aX aS cR cT cP cX cS rs ts ps xs ss w)(hE:∀V,Below w.heap.size w V→EnvK V){X7 G nS cG:Nat}{cs:Array Value}(ss2:List Sgn)(V:World)(hv:SpW w X7 G nS cG cs ss2 V)(hw:Dj ⟨wd,dp,ta,tb,tc,rs,⟨bars,ts,ps,xs⟩,ss2⟩=190) :
  Calls Tryd.prog 7 #[.agg #[int i64 wd,int i64 dp,int i64 ta,int i64 tb,int i64 tc,.slice aR rs.length cR,int i64 bars,.slice aT ts.length cT,.slice aP ps.length cP,.slice aX xs.length cX,.slice (some ⟨G,0,none⟩) nS cG]] V λe w'=>e=.returned (int i64 190)∧Below w.heap.size w w':=by
 have hr:=hW.below hv.base
 have hl:ss2.length≤maxLen:=by
  by_cases h:ss2.length≤maxLen
  ·exact h
  ·exfalso
   unfold Dj Fj at hw;simp only at hw;rw [decide_eq_false (show ¬ss2.length≤4096 from λh2=>h (Nat.le_trans h2 (by decide)))] at hw;simp at hw
 have C:=DZ wd dp ta tb tc bars aR aT aP aX (some ⟨G,0,none⟩) cR cT cP cX cG rs ts ps xs ss2 V (hE V hv.base) hr.roles hr.tempos hr.pauses hr.spans (Hy hv.row hl hv.free.lt);rw [hw,hv.len] at C
 exact C.mono λe w' h=>⟨h.1,Ag hv.base h.2⟩
theorem Ht(wd dp ta tb tc bars:Int)(aR aT aP aX aS:Option Addr)(cR cT cP cX cS:Nat)(rs:List Rol)(ts:List Tmp)(ps:List Pau)(xs:List Con)(ss:List Sgn)(n1 n2:Nat)(w:World)(hW:WkRows aR aT aP aX aS cR cT cP cX cS rs ts ps xs ss w)(hE:∀V,Below w.heap.size w V→Env V∧EnvK V)(hf:Tr ⟨wd,dp,ta,tb,tc,rs,⟨bars,ts,ps,xs⟩,ss⟩=true)(hn:¬ss.length=0)(hc:Dj ⟨wd,dp,ta,tb,tc,rs,⟨bars,ts,ps,xs⟩,ss⟩=0)(h1:n1<256)(h2:n2<256) :
  Calls Tryd.prog 4 #[.agg #[int i64 wd,int i64 dp,int i64 ta,int i64 tb,int i64 tc,.slice aR rs.length cR,int i64 bars,.slice aT ts.length cT,.slice aP ps.length cP,.slice aX xs.length cX,.slice aS ss.length cS],.int .u8 n1,.int .u8 n2] w λe w'=>e=.returned (.bool true)∧Below w.heap.size w w':=by
 have FW:=λV=>UT wd dp ta tb tc bars aR aT aP aX aS cR cT cP cX cS rs ts ps xs ss V
 have CK:=λ(V:World) (hv:Below w.heap.size w V)=>DZ wd dp ta tb tc bars aR aT aP aX aS cR cT cP cX cS rs ts ps xs ss V (hE V hv).2 (hW.below hv).roles (hW.below hv).tempos (hW.below hv).pauses (hW.below hv).spans (hW.below hv).signs
 have HW:=qh hW;have HE:=qh hE;clear hW hE;have hJ:=qh hc;have hL:=(JG hc).1;unfold Fj at hL;simp only [Bool.and_eq_true,decide_eq_true_eq] at hL;have HZ:=hL.2;have Hm:=hL.1;rw [hf] at FW;rw [hc] at CK;clear hf hc hL;obtain ⟨nS,h3⟩:∃n,ss.length=n:=⟨_,rfl⟩;rw [h3] at FW CK hn HZ ⊢;have hD:=qh h3;clear h3;have Ha:¬(nS:Int)=0:=by omega
 have Hn:((nS:Int)==0)=false:=by simpa using Ha
 obtain ⟨i0,HF,HG,HH,HI⟩:=PC;have hI:=qh (And.intro HF (And.intro HG (And.intro HH HI)));clear HF HG HH HI;obtain ⟨A0,xA0,gA0,bA0,sA0⟩:=Af w #[int i64 wd,int i64 dp,int i64 ta,int i64 tb,int i64 tc,.slice aR rs.length cR,int i64 bars,.slice aT ts.length cT,.slice aP ps.length cP,.slice aX xs.length cX,.slice aS nS cS] 32;obtain ⟨X3,h4⟩:∃X,w.heap.size=X:=⟨_,rfl⟩;rw [h4] at gA0;have HX:=qh gA0;have HB:=qh bA0;have Hb:=qh FW;have Hc:=qh CK;clear gA0 bA0 sA0 FW CK;have st0:True:=trivial;go_enter Tryd.func4,Tryd.ntmps4
 go_wp2_with (first
  | (have q:=st0;clear q;go_at_call 5;refine (Uj _ (λV hV=>HE.out V (Ag HB.out hV))).mono ?_;rintro e V1 ⟨rfl,hb⟩;have T1:=qh (Ag HB.out hb);clear HB;have HB:=T1;clear T1;have T1:=qh (Ah hb HX.out);clear HX;have HX:=T1;clear T1;clear hb;clear st0;have st1:True:=trivial)
  | (have q:=st1;clear q;refine wpList_load_row rfl 32 _ rfl X3 rfl 32 #[int i64 wd,int i64 dp,int i64 ta,int i64 tb,int i64 tc,.slice aR rs.length cR,int i64 bars,.slice aT ts.length cT,.slice aP ps.length cP,.slice aX xs.length cX,.slice aS nS cS] (0,0) _ HX.out Tryd.underlying32 rfl (by kernel_rfl) ?_;simp only [Act.put,qD,qE,qF];clear st1;have st2:True:=trivial)
  | (have q:=st2;clear q;go_at_call 6;refine (Hb.out _).mono ?_;rintro e V2 ⟨rfl,hb⟩;have T1:=qh (Ag HB.out hb);clear HB;have HB:=T1;clear T1;have T1:=qh (Ah hb HX.out);clear HX;have HX:=T1;clear T1;clear hb;have y10:V2.cell? ⟨X3,10,none⟩=some (.slice aS nS cS):=Aa HX.out 10 rfl;clear st2;have st3:True:=trivial)
  | (have q:=st3;clear q;refine Du (by kernel_rfl) 32 _ rfl X3 rfl 32 #[int i64 wd,int i64 dp,int i64 ta,int i64 tb,int i64 tc,.slice aR rs.length cR,int i64 bars,.slice aT ts.length cT,.slice aP ps.length cP,.slice aX xs.length cX,.slice aS nS cS] (0,0) _ HX.out Tryd.underlying32 rfl (by kernel_rfl) ?_;simp only [Act.put,qD,qE,qF];clear st3;have st4:True:=trivial)
  | (have q:=st4;clear q;go_at_call 7;refine (Hc.out _ HB.out).mono ?_;rintro e V3 ⟨rfl,hb⟩;have T1:=qh (Ag HB.out hb);clear HB;have HB:=T1;clear T1;have T1:=qh (Ah hb HX.out);clear HX;have HX:=T1;clear T1;clear hb y10;clear st4;have st5:True:=trivial)
  | (have q:=st5;clear q;refine wpList_load_row rfl 32 _ rfl X3 rfl 32 #[int i64 wd,int i64 dp,int i64 ta,int i64 tb,int i64 tc,.slice aR rs.length cR,int i64 bars,.slice aT ts.length cT,.slice aP ps.length cP,.slice aX xs.length cX,.slice aS nS cS] (0,0) _ HX.out Tryd.underlying32 rfl (by kernel_rfl) ?_;simp only [Act.put,qD,qE,qF];obtain ⟨A7,xA7,gA7,bA7,sA7⟩:=Af V3 #[int i64 wd,int i64 dp,int i64 ta,int i64 tb,int i64 tc,.slice aR rs.length cR,int i64 bars,.slice aT ts.length cT,.slice aP ps.length cP,.slice aX xs.length cX,.slice aS nS cS] 32;obtain ⟨X7,HJ⟩:∃X,V3.heap.size=X:=⟨_,rfl⟩;rw [HJ] at gA7 sA7;obtain ⟨E7,hU⟩:∃X,A7.heap.size=X:=⟨_,rfl⟩;obtain ⟨W2,xW2,bW2,sW2⟩:∃W2,A7.alloc (.cells #[] 43)=W2∧Below A7.heap.size A7 W2∧W2.heap.size=A7.heap.size+1:=⟨_,rfl,(Below.refl _ _).alloc (qn _) _,by simp⟩;rw [hU] at bW2 sW2;have hZ:W2.ownsRow E7 43 14 (.slice (some ⟨E7,0,none⟩) 0 0) 0 []:=(by rw [← xW2,← hU];exact Hz A7 _ 43 14 (qn _));have bV3:Below w.heap.size w A7:=Ag HB.out bA7;have bVW:Below w.heap.size w W2:=bV3.trans (bW2.mono (by rw [← hU];exact bV3.size));have y10:W2.cell? ⟨X3,10,none⟩=some (.slice aS nS cS):=Aa ((bW2.block X3 (by have:=bA7.size;have:=(qs.1 HX.out).1;omega)).trans (Ah bA7 HX.out)) 10 rfl;have hQ:=VU (HW.out.below bVW).signs;rw [hD.out] at hQ;have HS:=qh hQ;have HO:=qh hZ;have GX7:=qh gA7;have BW2:=qh bW2;have SW2:=qh sW2;have BV3:=qh bV3;have h5:Hid (X3<V3.heap.size):=qh (qs.1 HX.out).1;have T1:=qh (Ah bA7 HX.out);clear HX;have HX:=T1;clear T1;have SA7:=qh sA7;clear gA7 bA7 sA7 bW2 sW2 hZ bV3 bVW hQ;clear st5;have st6:True:=trivial)
  | (at_builtin;(try rw [xW2]);refine Np rfl _ _ 30 rfl E7 43 i0 _ 14 112 Tryd.underlying30 hI.out.1 hI.out.2.1 hI.out.2.2.1 hI.out.2.2.2 rfl (by decide) _ 0 [] rfl HO.out aS nS cS (ss.flatMap AC) rfl HS.out.1 HS.out.2.1 HS.out.2.2 (VR ss) (by unfold maxLen;omega) (by omega) (by rw [SW2.out];omega) ?_;intro v5 W5 hz HM HN;rw [Nat.zero_add,List.nil_append] at hz;have HP:=hz;obtain ⟨G,cG,rfl,q1,q2,q3⟩:=VQ hz (by rcases HN with h|h<;>exact ⟨_,h⟩);have h0:Below E7 A7 W5:=BW2.out.grown HM (by rw [SW2.out];omega) (λk hk=>by cases hk;exact qn _);have h6:X7<E7:=(by rw [← hU];exact (qs.1 GX7.out).1);have gX7:=(h0.block X7 h6).trans GX7.out;obtain ⟨W8,eW8,gW8,oW8,bW8,cW8,fW8⟩:=CQ (i:=10) (v:=.slice (some ⟨G,0,none⟩) nS cG) (cs':=#[int i64 wd,int i64 dp,int i64 ta,int i64 tb,int i64 tc,.slice aR rs.length cR,int i64 bars,.slice aT ts.length cT,.slice aP ps.length cP,.slice aX xs.length cX,.slice (some ⟨G,0,none⟩) nS cG]) gX7 rfl rfl;have ha:w.heap.size≤X7:=(by rw [← HJ];exact HB.out.size);have hd:Below w.heap.size w W8:=(BV3.out.trans (h0.mono (by rw [← hU];exact BV3.out.size))).trans (bW8 _ ha);have H8:=qh (show SpW w X7 G nS cG #[int i64 wd,int i64 dp,int i64 ta,int i64 tb,int i64 tc,.slice aR rs.length cR,int i64 bars,.slice aT ts.length cT,.slice aP ps.length cP,.slice aX xs.length cX,.slice (some ⟨G,0,none⟩) nS cG] ss W8 from ⟨hd,gW8,λj u hj=>by rw [World.cell?_of_block (oW8 G (by omega))];exact q3 j u hj,(by obtain ⟨cur,t,hc⟩:=q2;exact ⟨cur,t,(oW8 G (by omega)).trans hc⟩),hD.out,ha,by omega,by omega⟩);have Hd:X3<X7:=(by have:=HB.out.size;have:=h5.out;omega);have HQ:=qh ((oW8 X3 (by omega)).trans ((h0.block X3 (by omega)).trans HX.out));have hF:=qh (show W8.ownsRow E7 43 14 (.slice (some ⟨G,0,none⟩) nS cG) nS (ss.flatMap AC) from UY HP (λg hg=>by cases hg;exact oW8 G (by omega)));have He:Hid (E7≤G∧w.heap.size≤E7):=qh ⟨q1,by rw [← hU];exact BV3.out.size⟩;clear HX hz HP HM HN q1 q2 q3 h0 gX7 gW8 oW8 bW8 hd))
 have Hf:=H8.out.base.size;have HR:=H8.out.drew;have he:W8.drew.heap[X3]?=_:=HQ.out;have hh:W8.drew.ownsRow E7 43 14 (.slice (some ⟨G,0,none⟩) nS cG) nS (ss.flatMap AC):=hF.out;obtain ⟨i,hi⟩:∃i,n1 % nS=i:=⟨_,rfl⟩;have Hg:(n1:Int).tmod (nS:Int)=(i:Int):=by rw [← hi];exact Int.ofNat_tmod n1 nS
 have hG:i<nS:=by rw [← hi];exact Nat.mod_lt _ (by omega)
 have Hh:(i:Int)<(nS:Int):=by omega
 have Ho:IntKind.i64.wrap (n1:Int)=(n1:Int):=IntWalk.i64_in _ (by omega);have Hp:IntKind.i64.wrap ((rs.length:Int)+1)=(rs.length:Int)+1:=IntWalk.i64_in _ (by omega);clear hi;refine AU (λw2=>SpW w X7 G nS cG #[int i64 wd,int i64 dp,int i64 ta,int i64 tb,int i64 tc,.slice aR rs.length cR,int i64 bars,.slice aT ts.length cT,.slice aP ps.length cP,.slice aX xs.length cX,.slice (some ⟨G,0,none⟩) nS cG] ss w2∧w2.heap[X3]?=some (.cells #[int i64 wd,int i64 dp,int i64 ta,int i64 tb,int i64 tc,.slice aR rs.length cR,int i64 bars,.slice aT ts.length cT,.slice aP ps.length cP,.slice aX xs.length cX,.slice aS nS cS] 32 (0,0))∧w2.ownsRow E7 43 14 (.slice (some ⟨G,0,none⟩) nS cG) nS (ss.flatMap AC)) 9 (by kernel_rfl) (by kernel_rfl) ⟨HR,he,hh⟩ ?_;clear hF HR he hh H8 HQ eW8 cW8 fW8;intro U hS;obtain ⟨hN,h7,hX⟩:=hS;have d10:U.cell? ⟨X7,10,none⟩=some (.slice (some ⟨G,0,none⟩) nS cG):=Aa hN.x 10 rfl;have e10:U.cell? ⟨X3,10,none⟩=some (.slice aS nS cS):=Aa h7 10 rfl;have HS:=qh hN;have HX:=qh h7;have hF:=qh hX;clear hN h7 hX;simp only [List.take_succ_cons,List.take_zero,List.drop_succ_cons,List.drop_zero]
 iterate 9 still_step
 refine wpStill_nil ?_;obtain ⟨x,hx⟩:∃x,ss[i]?=some x:=⟨_,qg (by rw [hD.out];exact hG)⟩;have hH:=qh hx;have hA:=qh (λ(r:Nat) (u:Value) (hr:(AC x)[r]?=some u)=>HS.out.row.get I7 hx hr);have x5:U.cell? ⟨X3,5,none⟩=some (.slice aR rs.length cR):=Aa HX.out 5 rfl;have x6:U.cell? ⟨X3,6,none⟩=some (int i64 bars):=Aa HX.out 6 rfl;have hB:=qh (λ(ss2:List Sgn) (V:World) (hv:SpW w X7 G nS cG #[int i64 wd,int i64 dp,int i64 ta,int i64 tb,int i64 tc,.slice aR rs.length cR,int i64 bars,.slice aT ts.length cT,.slice aP ps.length cP,.slice aX xs.length cX,.slice (some ⟨G,0,none⟩) nS cG] ss2 V) (hw:Dj ⟨wd,dp,ta,tb,tc,rs,⟨bars,ts,ps,xs⟩,ss2⟩=190)=>VT wd dp ta tb tc bars aR aT aP aX aS cR cT cP cX cS rs ts ps xs ss w HW.out (λV hV=>(HE.out V hV).2) ss2 V hv hw);have hm:n2 % 12<12:=Nat.mod_lt _ (by decide);clear hx;rcases (by omega:n2 % 12=0∨n2 % 12=1∨n2 % 12=2∨n2 % 12=3∨n2 % 12=4∨n2 % 12=5∨n2 % 12=6∨n2 % 12=7∨n2 % 12=8∨n2 % 12=9∨n2 % 12=10∨n2 % 12=11) with e0|e1|e2|e3|e4|e5|e6|e7|e8|e9|e10|e11
 ·have hM:(n2:Int) % 12=0:=by omega
  have z0:=hA.out 1 (int i64 x.role) rfl;have zf:=HS.out.free.free (i*14+1);obtain ⟨U2,eU⟩:∃U2,U.setCell ⟨G,i*14+1,none⟩ (int i64 ((rs.length:Int)))=U2:=⟨_,rfl⟩;have h2:=HS.out.set (i:=i) (f:=1) (y:=H9 rs.length bars 0 x) (v:=int i64 ((rs.length:Int))) hH.out (by decide) rfl;rw [eU] at h2;have H2:=qh h2;have HC:=qh (hB.out _ U2 h2 (H7 hJ.out (by simp only;rw [hD.out];exact hG) (H6 (by omega) 0 x)));clear h2 hm hB hA hF;have st0:True:=trivial
  go_wp2_with (first
  | (have q:=st0;clear q;refine wpList_load_row rfl 32 _ rfl X7 rfl 32 #[int i64 wd,int i64 dp,int i64 ta,int i64 tb,int i64 tc,.slice aR rs.length cR,int i64 bars,.slice aT ts.length cT,.slice aP ps.length cP,.slice aX xs.length cX,.slice (some ⟨G,0,none⟩) nS cG] (0,0) _ H2.out.x Tryd.underlying32 rfl (by kernel_rfl) ?_;simp only [Act.put,qD,qE,qF];clear st0;have st1:True:=trivial)
  | (have q:=st1;clear q;go_at_call 7;refine HC.out.mono ?_;rintro e V9 ⟨rfl,hb⟩;have hC:=qh hb;clear hb))
  go_ret;exact ⟨rfl,hC.out⟩
 ·have hM:(n2:Int) % 12=1:=by omega
  have z0:=hA.out 2 (int i64 x.bar) rfl;have zf:=HS.out.free.free (i*14+2);obtain ⟨U2,eU⟩:∃U2,U.setCell ⟨G,i*14+2,none⟩ (int i64 (bars))=U2:=⟨_,rfl⟩;have h2:=HS.out.set (i:=i) (f:=2) (y:=H9 rs.length bars 1 x) (v:=int i64 (bars)) hH.out (by decide) rfl;rw [eU] at h2;have H2:=qh h2;have HC:=qh (hB.out _ U2 h2 (H7 hJ.out (by simp only;rw [hD.out];exact hG) (H6 (by omega) 1 x)));clear h2 hm hB hA hF;have st0:True:=trivial
  go_wp2_with (first
  | (have q:=st0;clear q;refine wpList_load_row rfl 32 _ rfl X7 rfl 32 #[int i64 wd,int i64 dp,int i64 ta,int i64 tb,int i64 tc,.slice aR rs.length cR,int i64 bars,.slice aT ts.length cT,.slice aP ps.length cP,.slice aX xs.length cX,.slice (some ⟨G,0,none⟩) nS cG] (0,0) _ H2.out.x Tryd.underlying32 rfl (by kernel_rfl) ?_;simp only [Act.put,qD,qE,qF];clear st0;have st1:True:=trivial)
  | (have q:=st1;clear q;go_at_call 7;refine HC.out.mono ?_;rintro e V9 ⟨rfl,hb⟩;have hC:=qh hb;clear hb))
  go_ret;exact ⟨rfl,hC.out⟩
 ·have hM:(n2:Int) % 12=2:=by omega
  have z0:=hA.out 3 (int i64 x.mark) rfl;have zf:=HS.out.free.free (i*14+3);obtain ⟨U2,eU⟩:∃U2,U.setCell ⟨G,i*14+3,none⟩ (int i64 (4))=U2:=⟨_,rfl⟩;have h2:=HS.out.set (i:=i) (f:=3) (y:=H9 rs.length bars 2 x) (v:=int i64 (4)) hH.out (by decide) rfl;rw [eU] at h2;have H2:=qh h2;have HC:=qh (hB.out _ U2 h2 (H7 hJ.out (by simp only;rw [hD.out];exact hG) (H6 (by omega) 2 x)));clear h2 hm hB hA hF x5 x6;have st0:True:=trivial
  go_wp2_with (first
  | (have q:=st0;clear q;refine wpList_load_row rfl 32 _ rfl X7 rfl 32 #[int i64 wd,int i64 dp,int i64 ta,int i64 tb,int i64 tc,.slice aR rs.length cR,int i64 bars,.slice aT ts.length cT,.slice aP ps.length cP,.slice aX xs.length cX,.slice (some ⟨G,0,none⟩) nS cG] (0,0) _ H2.out.x Tryd.underlying32 rfl (by kernel_rfl) ?_;simp only [Act.put,qD,qE,qF];clear st0;have st1:True:=trivial)
  | (have q:=st1;clear q;go_at_call 7;refine HC.out.mono ?_;rintro e V9 ⟨rfl,hb⟩;have hC:=qh hb;clear hb))
  go_ret;exact ⟨rfl,hC.out⟩
 ·have hM:(n2:Int) % 12=3:=by omega
  have z0:=hA.out 4 (int i64 x.kind) rfl;have zf:=HS.out.free.free (i*14+4);obtain ⟨U2,eU⟩:∃U2,U.setCell ⟨G,i*14+4,none⟩ (int i64 (10))=U2:=⟨_,rfl⟩;have h2:=HS.out.set (i:=i) (f:=4) (y:=H9 rs.length bars 3 x) (v:=int i64 (10)) hH.out (by decide) rfl;rw [eU] at h2;have H2:=qh h2;have HC:=qh (hB.out _ U2 h2 (H7 hJ.out (by simp only;rw [hD.out];exact hG) (H6 (by omega) 3 x)));clear h2 hm hB hA hF x5 x6;have st0:True:=trivial
  go_wp2_with (first
  | (have q:=st0;clear q;refine wpList_load_row rfl 32 _ rfl X7 rfl 32 #[int i64 wd,int i64 dp,int i64 ta,int i64 tb,int i64 tc,.slice aR rs.length cR,int i64 bars,.slice aT ts.length cT,.slice aP ps.length cP,.slice aX xs.length cX,.slice (some ⟨G,0,none⟩) nS cG] (0,0) _ H2.out.x Tryd.underlying32 rfl (by kernel_rfl) ?_;simp only [Act.put,qD,qE,qF];clear st0;have st1:True:=trivial)
  | (have q:=st1;clear q;go_at_call 7;refine HC.out.mono ?_;rintro e V9 ⟨rfl,hb⟩;have hC:=qh hb;clear hb))
  go_ret;exact ⟨rfl,hC.out⟩
 ·have hM:(n2:Int) % 12=4:=by omega
  have z0:=hA.out 5 (int i64 x.side) rfl;have zf:=HS.out.free.free (i*14+5);obtain ⟨U2,eU⟩:∃U2,U.setCell ⟨G,i*14+5,none⟩ (int i64 (3))=U2:=⟨_,rfl⟩;have h2:=HS.out.set (i:=i) (f:=5) (y:=H9 rs.length bars 4 x) (v:=int i64 (3)) hH.out (by decide) rfl;rw [eU] at h2;have H2:=qh h2;have HC:=qh (hB.out _ U2 h2 (H7 hJ.out (by simp only;rw [hD.out];exact hG) (H6 (by omega) 4 x)));clear h2 hm hB hA hF x5 x6;have st0:True:=trivial
  go_wp2_with (first
  | (have q:=st0;clear q;refine wpList_load_row rfl 32 _ rfl X7 rfl 32 #[int i64 wd,int i64 dp,int i64 ta,int i64 tb,int i64 tc,.slice aR rs.length cR,int i64 bars,.slice aT ts.length cT,.slice aP ps.length cP,.slice aX xs.length cX,.slice (some ⟨G,0,none⟩) nS cG] (0,0) _ H2.out.x Tryd.underlying32 rfl (by kernel_rfl) ?_;simp only [Act.put,qD,qE,qF];clear st0;have st1:True:=trivial)
  | (have q:=st1;clear q;go_at_call 7;refine HC.out.mono ?_;rintro e V9 ⟨rfl,hb⟩;have hC:=qh hb;clear hb))
  go_ret;exact ⟨rfl,hC.out⟩
 ·have hM:(n2:Int) % 12=5:=by omega
  have z0:=hA.out 6 (int i64 x.dir) rfl;have zf:=HS.out.free.free (i*14+6);obtain ⟨U2,eU⟩:∃U2,U.setCell ⟨G,i*14+6,none⟩ (int i64 (9))=U2:=⟨_,rfl⟩;have h2:=HS.out.set (i:=i) (f:=6) (y:=H9 rs.length bars 5 x) (v:=int i64 (9)) hH.out (by decide) rfl;rw [eU] at h2;have H2:=qh h2;have HC:=qh (hB.out _ U2 h2 (H7 hJ.out (by simp only;rw [hD.out];exact hG) (H6 (by omega) 5 x)));clear h2 hm hB hA hF x5 x6;have st0:True:=trivial
  go_wp2_with (first
  | (have q:=st0;clear q;refine wpList_load_row rfl 32 _ rfl X7 rfl 32 #[int i64 wd,int i64 dp,int i64 ta,int i64 tb,int i64 tc,.slice aR rs.length cR,int i64 bars,.slice aT ts.length cT,.slice aP ps.length cP,.slice aX xs.length cX,.slice (some ⟨G,0,none⟩) nS cG] (0,0) _ H2.out.x Tryd.underlying32 rfl (by kernel_rfl) ?_;simp only [Act.put,qD,qE,qF];clear st0;have st1:True:=trivial)
  | (have q:=st1;clear q;go_at_call 7;refine HC.out.mono ?_;rintro e V9 ⟨rfl,hb⟩;have hC:=qh hb;clear hb))
  go_ret;exact ⟨rfl,hC.out⟩
 ·have hM:(n2:Int) % 12=6:=by omega
  have z0:=hA.out 7 (int i64 x.level) rfl;have zf:=HS.out.free.free (i*14+7);obtain ⟨U2,eU⟩:∃U2,U.setCell ⟨G,i*14+7,none⟩ (int i64 (4))=U2:=⟨_,rfl⟩;have h2:=HS.out.set (i:=i) (f:=7) (y:=H9 rs.length bars 6 x) (v:=int i64 (4)) hH.out (by decide) rfl;rw [eU] at h2;have H2:=qh h2;have HC:=qh (hB.out _ U2 h2 (H7 hJ.out (by simp only;rw [hD.out];exact hG) (H6 (by omega) 6 x)));clear h2 hm hB hA hF x5 x6;have st0:True:=trivial
  go_wp2_with (first
  | (have q:=st0;clear q;refine wpList_load_row rfl 32 _ rfl X7 rfl 32 #[int i64 wd,int i64 dp,int i64 ta,int i64 tb,int i64 tc,.slice aR rs.length cR,int i64 bars,.slice aT ts.length cT,.slice aP ps.length cP,.slice aX xs.length cX,.slice (some ⟨G,0,none⟩) nS cG] (0,0) _ H2.out.x Tryd.underlying32 rfl (by kernel_rfl) ?_;simp only [Act.put,qD,qE,qF];clear st0;have st1:True:=trivial)
  | (have q:=st1;clear q;go_at_call 7;refine HC.out.mono ?_;rintro e V9 ⟨rfl,hb⟩;have hC:=qh hb;clear hb))
  go_ret;exact ⟨rfl,hC.out⟩
 ·have hM:(n2:Int) % 12=7:=by omega
  have z0:=hA.out 8 (int i64 x.size) rfl;have zf:=HS.out.free.free (i*14+8);obtain ⟨U2,eU⟩:∃U2,U.setCell ⟨G,i*14+8,none⟩ (int i64 (17))=U2:=⟨_,rfl⟩;have h2:=HS.out.set (i:=i) (f:=8) (y:=H9 rs.length bars 7 x) (v:=int i64 (17)) hH.out (by decide) rfl;rw [eU] at h2;have H2:=qh h2;have HC:=qh (hB.out _ U2 h2 (H7 hJ.out (by simp only;rw [hD.out];exact hG) (H6 (by omega) 7 x)));clear h2 hm hB hA hF x5 x6;have st0:True:=trivial
  go_wp2_with (first
  | (have q:=st0;clear q;refine wpList_load_row rfl 32 _ rfl X7 rfl 32 #[int i64 wd,int i64 dp,int i64 ta,int i64 tb,int i64 tc,.slice aR rs.length cR,int i64 bars,.slice aT ts.length cT,.slice aP ps.length cP,.slice aX xs.length cX,.slice (some ⟨G,0,none⟩) nS cG] (0,0) _ H2.out.x Tryd.underlying32 rfl (by kernel_rfl) ?_;simp only [Act.put,qD,qE,qF];clear st0;have st1:True:=trivial)
  | (have q:=st1;clear q;go_at_call 7;refine HC.out.mono ?_;rintro e V9 ⟨rfl,hb⟩;have hC:=qh hb;clear hb))
  go_ret;exact ⟨rfl,hC.out⟩
 ·have hM:(n2:Int) % 12=8:=by omega
  have z0:=hA.out 9 (int i64 x.wth) rfl;have zf:=HS.out.free.free (i*14+9);obtain ⟨U2,eU⟩:∃U2,U.setCell ⟨G,i*14+9,none⟩ (int i64 ((rs.length:Int)+1))=U2:=⟨_,rfl⟩;have h2:=HS.out.set (i:=i) (f:=9) (y:=H9 rs.length bars 8 x) (v:=int i64 ((rs.length:Int)+1)) hH.out (by decide) rfl;rw [eU] at h2;have H2:=qh h2;have HC:=qh (hB.out _ U2 h2 (H7 hJ.out (by simp only;rw [hD.out];exact hG) (H6 (by omega) 8 x)));clear h2 hm hB hA hF;have st0:True:=trivial
  go_wp2_with (first
  | (have q:=st0;clear q;refine wpList_load_row rfl 32 _ rfl X7 rfl 32 #[int i64 wd,int i64 dp,int i64 ta,int i64 tb,int i64 tc,.slice aR rs.length cR,int i64 bars,.slice aT ts.length cT,.slice aP ps.length cP,.slice aX xs.length cX,.slice (some ⟨G,0,none⟩) nS cG] (0,0) _ H2.out.x Tryd.underlying32 rfl (by kernel_rfl) ?_;simp only [Act.put,qD,qE,qF];clear st0;have st1:True:=trivial)
  | (have q:=st1;clear q;go_at_call 7;refine HC.out.mono ?_;rintro e V9 ⟨rfl,hb⟩;have hC:=qh hb;clear hb))
  go_ret;exact ⟨rfl,hC.out⟩
 ·have hM:(n2:Int) % 12=9:=by omega
  have Hi:Hid (U.rangeAt G (i*14+10) [int i64 x.fn,int i64 x.fd]):=qh (λj u hj=>by match j,hj with|0,hj=>cases hj;exact hA.out 10 _ rfl|1,hj=>cases hj;exact hA.out 11 _ rfl);have h8:Hid (U.there G (i*14+12) 2):=qh (λj hj=>⟨(show U.rangeAt G (i*14+12) [int i64 x.tn,int i64 x.td] from λj u hj=>by match j,hj with|0,hj=>cases hj;exact hA.out 12 _ rfl|1,hj=>cases hj;exact hA.out 13 _ rfl).isSome j (by simpa using hj),HS.out.free.free _⟩);obtain ⟨U2,eU⟩:∃U2,U.setCells G (i*14+12) [int i64 (x.fn),int i64 (x.fd)]=U2:=⟨_,rfl⟩;have s1:=HS.out.set (i:=i) (f:=12) (y:={ x with tn:=x.fn }) (v:=int i64 (x.fn)) hH.out (by decide) rfl;have h2:=s1.set (i:=i) (f:=13) (x:={ x with tn:=x.fn }) (y:=H9 rs.length bars 9 x) (v:=int i64 (x.fd)) (by rw [List.getElem?_set_self (by rw [hD.out];exact hG)]) (by decide) rfl;rw [List.set_set] at h2;have eU2:(U.setCell ⟨G,i*14+12,none⟩ (int i64 (x.fn))).setCell ⟨G,i*14+13,none⟩ (int i64 (x.fd))=U2:=eU;rw [eU2] at h2;have H2:=qh h2;have HC:=qh (hB.out _ U2 h2 (H7 hJ.out (by simp only;rw [hD.out];exact hG) (H6 (by omega) 9 x)));have EU:=qh eU;clear h2 s1 eU eU2 hm hB hA hF x5 x6;have st0:True:=trivial
  go_wp2_with (first
  | (have q:=st0;clear q;refine wpList_load_mid rfl 41 _ rfl G (i*14+10) rfl [int i64 x.fn,int i64 x.fd] _ Hi.out Tryd.underlying41 rfl (by kernel_rfl) ?_;simp only [Act.put,qD,qE,qF];clear st0;have st1:True:=trivial)
  | (have q:=st1;clear q;refine wpList_store_mid rfl 41 _ _ rfl G (i*14+12) #[int i64 (x.fn),int i64 (x.fd)] rfl rfl h8.out (by kernel_rfl) (by simp [Value.oneCell']) ?_;rw [show (#[int i64 (x.fn),int i64 (x.fd)]:Array Value).toList=[int i64 (x.fn),int i64 (x.fd)] from rfl,EU.out];clear st1;have st2:True:=trivial)
  | (have q:=st2;clear q;refine wpList_load_row rfl 32 _ rfl X7 rfl 32 #[int i64 wd,int i64 dp,int i64 ta,int i64 tb,int i64 tc,.slice aR rs.length cR,int i64 bars,.slice aT ts.length cT,.slice aP ps.length cP,.slice aX xs.length cX,.slice (some ⟨G,0,none⟩) nS cG] (0,0) _ H2.out.x Tryd.underlying32 rfl (by kernel_rfl) ?_;simp only [Act.put,qD,qE,qF];clear st2;have st3:True:=trivial)
  | (have q:=st3;clear q;go_at_call 7;refine HC.out.mono ?_;rintro e V9 ⟨rfl,hb⟩;have hC:=qh hb;clear hb))
  go_ret;exact ⟨rfl,hC.out⟩
 ·have hM:(n2:Int) % 12=10:=by omega
  have h8:Hid (U.there G (i*14+10) 2):=qh (λj hj=>⟨(show U.rangeAt G (i*14+10) [int i64 x.fn,int i64 x.fd] from λj u hj=>by match j,hj with|0,hj=>cases hj;exact hA.out 10 _ rfl|1,hj=>cases hj;exact hA.out 11 _ rfl).isSome j (by simpa using hj),HS.out.free.free _⟩);obtain ⟨U2,eU⟩:∃U2,U.setCells G (i*14+10) [int i64 (0),int i64 (0)]=U2:=⟨_,rfl⟩;have s1:=HS.out.set (i:=i) (f:=10) (y:={ x with fn:=0 }) (v:=int i64 (0)) hH.out (by decide) rfl;have h2:=s1.set (i:=i) (f:=11) (x:={ x with fn:=0 }) (y:=H9 rs.length bars 10 x) (v:=int i64 (0)) (by rw [List.getElem?_set_self (by rw [hD.out];exact hG)]) (by decide) rfl;rw [List.set_set] at h2;have eU2:(U.setCell ⟨G,i*14+10,none⟩ (int i64 (0))).setCell ⟨G,i*14+11,none⟩ (int i64 (0))=U2:=eU;rw [eU2] at h2;have H2:=qh h2;have HC:=qh (hB.out _ U2 h2 (H7 hJ.out (by simp only;rw [hD.out];exact hG) (H6 (by omega) 10 x)));have EU:=qh eU;clear h2 s1 eU eU2 hm hB hA hF x5 x6;have st0:True:=trivial
  go_wp2_with (first
  | (have q:=st0;clear q;refine wpList_store_mid rfl 41 _ _ rfl G (i*14+10) #[int i64 (0),int i64 (0)] rfl rfl h8.out (by kernel_rfl) (by simp [Value.oneCell']) ?_;rw [show (#[int i64 (0),int i64 (0)]:Array Value).toList=[int i64 (0),int i64 (0)] from rfl,EU.out];clear st0;have st1:True:=trivial)
  | (have q:=st1;clear q;refine wpList_load_row rfl 32 _ rfl X7 rfl 32 #[int i64 wd,int i64 dp,int i64 ta,int i64 tb,int i64 tc,.slice aR rs.length cR,int i64 bars,.slice aT ts.length cT,.slice aP ps.length cP,.slice aX xs.length cX,.slice (some ⟨G,0,none⟩) nS cG] (0,0) _ H2.out.x Tryd.underlying32 rfl (by kernel_rfl) ?_;simp only [Act.put,qD,qE,qF];clear st1;have st2:True:=trivial)
  | (have q:=st2;clear q;go_at_call 7;refine HC.out.mono ?_;rintro e V9 ⟨rfl,hb⟩;have hC:=qh hb;clear hb))
  go_ret;exact ⟨rfl,hC.out⟩
 ·have hM:(n2:Int) % 12=11:=by omega
  clear hm hB hA x5 x6
  cases x with
  | mk s0 s1 s2 s3 s4 s5 s6 s7 s8 s9 s10 s11 s12 s13 =>
  go_wp2_with fail;refine SV 5 6 (λV=>V.rangeAt G (i*14) [int i64 s0,int i64 s1,int i64 s2,int i64 s3,int i64 s4,int i64 s5,int i64 s6,int i64 s7,int i64 s8,int i64 s9,int i64 s10,int i64 s11,int i64 s12,int i64 s13]) (λV=>V.cell? ⟨X7,10,none⟩=some (.slice (some ⟨G,0,none⟩) nS cG)) (by kernel_rfl) ?_;have hN:=HS.out.drew;have hX:U.drew.ownsRow E7 43 14 (.slice (some ⟨G,0,none⟩) nS cG) nS (ss.flatMap AC):=hF.out;clear HS hF HX d10 e10;obtain ⟨U3,HT⟩:∃U3,U.drew=U3:=⟨_,rfl⟩;change Dc _ _ _ _ _ _ _ _ _ _ _ U.drew;rw [HT] at hN hX ⊢;have hR:U3.cell? ⟨X7,10,none⟩=some (.slice (some ⟨G,0,none⟩) nS cG):=Aa hN.x 10 rfl;have hY:U3.rangeAt G (i*14) [int i64 s0,int i64 s1,int i64 s2,int i64 s3,int i64 s4,int i64 s5,int i64 s6,int i64 s7,int i64 s8,int i64 s9,int i64 s10,int i64 s11,int i64 s12,int i64 s13]:=λr u hr=>hN.row.get I7 hH.out (x:=⟨s0,s1,s2,s3,s4,s5,s6,s7,s8,s9,s10,s11,s12,s13⟩) (r:=r) (u:=u) hr
  have HS:=qh hN;have HO:=qh hX;clear hN hX HT
  try dsimp only
  refine Sy [1,6] (i:=0) (oi:=_) (v:=.pointer (some ⟨X7,10,none⟩)) rfl (by kernel_rfl) (λ_ _ _ h=>h) (Or.inl ⟨by kernel_rfl,λV hb=>by go_simp⟩) (λ_=>hY) hR ?_
  try simp only [Act.put,qA,qB,qC,qD,qE,qF]
  refine Sy [6] (i:=1) (oi:=_) (v:=.slice (some ⟨G,0,none⟩) nS cG) rfl (by kernel_rfl) (λ_ _ _ h=>h) (Or.inl ⟨by kernel_rfl,λV hb=>by have q0:V.cell? ⟨X7,10,none⟩=some (.slice (some ⟨G,0,none⟩) nS cG):=hb;go_simp⟩) (λ_=>hY) hR ?_
  try simp only [Act.put,qA,qB,qC,qD,qE,qF]
  refine Sy [3,4,5,6] (i:=2) (oi:=_) (v:=.pointer (some ⟨G,i*14,none⟩)) rfl (by kernel_rfl) (λ_ _ _ h=>h) (Or.inl ⟨by kernel_rfl,λV hb=>by go_simp⟩) (λ_=>hY) hR ?_
  try simp only [Act.put,qA,qB,qC,qD,qE,qF]
  refine Sy [4,5,6] (i:=3) (oi:=_) (v:=.pointer (some ⟨G,i*14,none⟩)) rfl (by kernel_rfl) (λ_ _ _ h=>h) (Or.inl ⟨by kernel_rfl,λV hb=>by go_simp⟩) (λ_=>hY) hR ?_
  try simp only [Act.put,qA,qB,qC,qD,qE,qF]
  refine Sx [5] (i:=4) (oi:=_) (v:=.agg #[int i64 s0,int i64 s1,int i64 s2,int i64 s3,int i64 s4,int i64 s5,int i64 s6,int i64 s7,int i64 s8,int i64 s9,int i64 s10,int i64 s11,int i64 s12,int i64 s13]) rfl (by kernel_rfl) (λ_ _ _ h=>h) (yieldsIf_load_mid (by kernel_rfl) 43 _ rfl G (i*14) rfl [int i64 s0,int i64 s1,int i64 s2,int i64 s3,int i64 s4,int i64 s5,int i64 s6,int i64 s7,int i64 s8,int i64 s9,int i64 s10,int i64 s11,int i64 s12,int i64 s13] _ (λV hb=>hb) Tryd.underlying43 rfl (by kernel_rfl)) hY (λ_=>hR) ?_
  try simp only [Act.put,qA,qB,qC,qD,qE,qF]
  refine Ug (i:=5) (by kernel_rfl) rfl (λK1 hK=>?_);have HK:=qh hK;clear hK;obtain ⟨W6,e6,b6,z6,HU⟩:=Qt U3 #[int i64 s0,int i64 s1,int i64 s2,int i64 s3,int i64 s4,int i64 s5,int i64 s6,int i64 s7,int i64 s8,int i64 s9,int i64 s10,int i64 s11,int i64 s12,int i64 s13] (all_oneCell_toArray (Nk ⟨s0,s1,s2,s3,s4,s5,s6,s7,s8,s9,s10,s11,s12,s13⟩));have hl:=Ad b6 hR;have h9:=qh (Bm HO.out b6);have HA:=qh b6;have HV:=qh HU;clear b6 z6 HU;go_simp
  (try rw [e6])
  refine HK.out _ _ (λh=>absurd (show true=false from h) (by decide)) (λ_=>hl) ?_
  try simp only [Act.put,qA,qB,qC,qD,qE,qF]
  clear HK K1;refine Ug (i:=6) (by kernel_rfl) rfl (λK1 hK=>?_);have HK:=qh hK;clear hK;rw [if_pos (by rfl)];refine Hs _ _ 30 rfl E7 43 i0 _ 14 112 Tryd.underlying30 hI.out.1 hI.out.2.1 hI.out.2.2.1 hI.out.2.2.2 rfl (by decide) (.slice (some ⟨G,0,none⟩) nS cG) nS _ rfl h9.out ⟨U3.heap.size,0,none⟩ 1 1 [int i64 s0,int i64 s1,int i64 s2,int i64 s3,int i64 s4,int i64 s5,int i64 s6,int i64 s7,int i64 s8,int i64 s9,int i64 s10,int i64 s11,int i64 s12,int i64 s13] rfl rfl (HV.out.1 _ rfl) HV.out.2 (by unfold maxLen;omega) (by omega) (by have:=h9.out.lt G rfl;have:=He.out;omega) ?_;intro v9 w10 hO hT Hj;obtain ⟨ao9,c9,rfl⟩:=AZ hO;have HY:=Ah HA.out HS.out.x;have gX:=Mh h9.out hT HY (by decide);have ho:Below w.heap.size w w10:=(Ag HS.out.base HA.out).grown hT (Ag HS.out.base HA.out).size (λk hk=>by cases hk;exact HS.out.lowG);obtain ⟨W12,eW12,gW12,oW12,bW12,cW12,fW12⟩:=CQ (i:=10) (v:=.slice ao9 (nS+1) c9) (cs':=#[int i64 wd,int i64 dp,int i64 ta,int i64 tb,int i64 tc,.slice aR rs.length cR,int i64 bars,.slice aT ts.length cT,.slice aP ps.length cP,.slice aX xs.length cX,.slice ao9 (nS+1) c9]) gX rfl rfl;have hp:=ho.trans (bW12 _ HS.out.lowX);have f10:W12.cell? ⟨X7,10,none⟩=some (.slice ao9 (nS+1) c9):=Aa gW12 10 rfl
  have hs:W12.ownsRow E7 43 14 (.slice ao9 (nS+1) c9) (ss++[(⟨s0,s1,s2,s3,s4,s5,s6,s7,s8,s9,s10,s11,s12,s13⟩:Sgn)]).length ((ss++[(⟨s0,s1,s2,s3,s4,s5,s6,s7,s8,s9,s10,s11,s12,s13⟩:Sgn)]).flatMap AC):=by
   rw [List.flatMap_append,List.length_append,hD.out];exact UY hO (λg hg=>oW12 g (λe=>by subst e;exact FW gX (by decide) (Ka hO hg).1))
  have ht:(ss++[(⟨s0,s1,s2,s3,s4,s5,s6,s7,s8,s9,s10,s11,s12,s13⟩:Sgn)]).length=nS+1:=by rw [List.length_append,hD.out];rfl
  have HL:=qh ht;have HD:=qh hs;have hP:=qh hp;have GW12:=qh gW12;clear ht hs hp gW12 oW12 bW12 ho gX HY hO hT Hj hY hR hl;refine HK.out _ _ (λh=>absurd (show true=false from h) (by decide)) (λh=>absurd (show true=false from h) (by decide)) ?_
  try simp only [Act.put,qA,qB,qC,qD,qE,qF]
  clear HK K1;refine Ug (i:=7) (by kernel_rfl) rfl (λK1 hK=>?_);have HK:=qh hK;clear hK;go_simp;refine HK.out _ _ (λh=>absurd (show true=false from h) (by decide)) (λh=>absurd (show true=false from h) (by decide)) ?_
  try simp only [Act.put,qA,qB,qC,qD,qE,qF]
  clear HK K1;refine Ug (i:=8) (by kernel_rfl) rfl (λK1 hK=>?_);have HK:=qh hK;clear hK;go_simp
  (try rw [eW12])
  refine HK.out _ _ (λh=>absurd (show true=false from h) (by decide)) (λh=>absurd (show true=false from h) (by decide)) ?_
  try simp only [Act.put,qA,qB,qC,qD,qE,qF]
  clear HK K1;refine SU (by kernel_rfl) ?_ _;by_cases Hk:4096<nS+1
  ·have Hl:(4096:Int)<(nS:Int)+1:=by omega
   go_wp2_with fail;go_ret;exact ⟨rfl,by have hq:=hP.out;first|exact hq|(rw [h4] at hq;exact hq)⟩
  ·have Hl:¬(4096:Int)<(nS:Int)+1:=by omega
   have hu:=EF (enc:=AC) (xs:=ss++[(⟨s0,s1,s2,s3,s4,s5,s6,s7,s8,s9,s10,s11,s12,s13⟩:Sgn)]) I7 (by rw [HL.out];unfold maxLen;omega) (c:=c9) (ao:=ao9) (by rw [HL.out];have:=HD.out;rw [HL.out] at this;exact this);have hy:=VS hJ.out (x:=⟨s0,s1,s2,s3,s4,s5,s6,s7,s8,s9,s10,s11,s12,s13⟩) (List.mem_of_getElem? hH.out) (by simp only;rw [HL.out];omega);have hr:=HW.out.below hP.out;have C:=DZ wd dp ta tb tc bars aR aT aP aX ao9 cR cT cP cX c9 rs ts ps xs (ss++[(⟨s0,s1,s2,s3,s4,s5,s6,s7,s8,s9,s10,s11,s12,s13⟩:Sgn)]) W12 (HE.out _ hP.out).2 hr.roles hr.tempos hr.pauses hr.spans hu;rw [hy,HL.out] at C;have HC:=qh C;clear C hu hy hr;have st0:True:=trivial
   go_wp2_with (first
   | (have q:=st0;clear q;refine wpList_load_row rfl 32 _ rfl X7 rfl 32 #[int i64 wd,int i64 dp,int i64 ta,int i64 tb,int i64 tc,.slice aR rs.length cR,int i64 bars,.slice aT ts.length cT,.slice aP ps.length cP,.slice aX xs.length cX,.slice ao9 (nS+1) c9] (0,0) _ GW12.out Tryd.underlying32 rfl (by kernel_rfl) ?_;simp only [Act.put,qD,qE,qF];clear st0;have st1:True:=trivial)
   | (have q:=st1;clear q;go_at_call 7;refine HC.out.mono ?_;rintro e V9 ⟨rfl,hb⟩;have hC:=qh (Ag hP.out hb);clear hb))
   go_ret;exact ⟨rfl,by have hq:=hC.out;first|exact hq|(rw [h4] at hq;exact hq)⟩
theorem Hu(wd dp ta tb tc bars:Int)(aR aT aP aX aS:Option Addr)(cR cT cP cX cS:Nat)(rs:List Rol)(ts:List Tmp)(ps:List Pau)(xs:List Con)(ss:List Sgn)(n1 n2:Nat)(w:World)(hW:WkRows aR aT aP aX aS cR cT cP cX cS rs ts ps xs ss w)(hE:∀V,Below w.heap.size w V→Env V∧EnvK V)(h1:n1<256)(h2:n2<256) :
  Calls Tryd.prog 4 #[.agg #[int i64 wd,int i64 dp,int i64 ta,int i64 tb,int i64 tc,.slice aR rs.length cR,int i64 bars,.slice aT ts.length cT,.slice aP ps.length cP,.slice aX xs.length cX,.slice aS ss.length cS],.int .u8 n1,.int .u8 n2] w λe w'=>e=.returned (.bool true)∧Below w.heap.size w w':=by
 cases hf:Tr ⟨wd,dp,ta,tb,tc,rs,⟨bars,ts,ps,xs⟩,ss⟩ with
 | false=>exact Hw wd dp ta tb tc bars aR aT aP aX aS cR cT cP cX cS rs ts ps xs ss n1 n2 w hW hE hf
 | true =>
  by_cases hn:ss.length=0
  ·exact Hx wd dp ta tb tc bars aR aT aP aX aS cR cT cP cX cS rs ts ps xs ss n1 n2 w hW hE hf hn
  ·by_cases hc:Dj ⟨wd,dp,ta,tb,tc,rs,⟨bars,ts,ps,xs⟩,ss⟩=0
   ·exact Ht wd dp ta tb tc bars aR aT aP aX aS cR cT cP cX cS rs ts ps xs ss n1 n2 w hW hE hf hn hc h1 h2
   ·exact Hv wd dp ta tb tc bars aR aT aP aX aS cR cT cP cX cS rs ts ps xs ss n1 n2 w hW hE hf hn _ rfl hc
end
end Go.Proofs.YtbkemlgfdklpfaaDoor
