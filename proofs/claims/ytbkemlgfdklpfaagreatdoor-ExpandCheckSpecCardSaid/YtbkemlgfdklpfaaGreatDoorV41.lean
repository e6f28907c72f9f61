/- Contracts and plain laws on the way to the statement: part 41. -/
import Derived.Test.YtbkemlgfdklpfaaGreatDoorV40
import Derived.OrdersHeld
import Derived.Test.YtbkemlgfdklpfaaGreatDoorV4
set_option linter.unusedVariables false
set_option linter.unusedSimpArgs false
set_option maxRecDepth 100000
set_option maxHeartbeats 16000000
namespace Go.Proofs.YtbkemlgfdklpfaaGreatDoor
open Go.Value (int)
open Go.IntKind (i64)
section
open Go Go.RowKit Go.Shelf Go.Deep
def FC(b:Nat):Option Addr:=some ⟨b,0,none⟩
def PK(M1 M2 J I0:Nat):Ph:=⟨[112],FC I0,2,.cons 1 0 [] none 0 .nil (FC M1) 1 [⟨1,1,1,1,0,2,[],0,1,1,2⟩] (.cons 3 0 [] (FC J) 1 (.cons 1 0 [] none 0 .nil (FC M2) 1 [⟨3,6,0,0,0,3,[],0,1,1,1⟩] .nil) none 0 [] .nil)⟩
def PL(I1:Nat):Ph:=⟨[113],FC I1,1,.cons 4 0 [112] none 0 .nil none 0 [] .nil⟩
def Tc(ra da:Option Addr)(rc dc:Nat)(rs:List Rol)(ds:List Dan)(T M1 M2 J I0 I1 F:Nat):Ls:=⟨[119],10,10,3,1,0,ra,rc,rs,FC T,1,[⟨0,4,0⟩],none,0,[],none,0,[],FC F,2,[PK M1 M2 J I0,PL I1],da,dc,ds⟩
def JY(R T M1 M2 J I0 I1 F D:Nat)(bar:Int):Ls:=Tc (FC R) (FC D) 2 2 [⟨[97],2,2,0⟩,⟨[98],5,5,4⟩] [⟨[97],[112],0,false⟩,⟨[98],[113],bar,true⟩] T M1 M2 J I0 I1 F
def QS(T M1 M2 J I0 I1 F:Nat):Ls:=Tc none none 0 0 [] [] T M1 M2 J I0 I1 F
section
variable {R T M1 M2 J I0 I1 F D:Nat} {bar:Int} {W:World}
theorem Sm19.phs(h:Sm19 R T M1 M2 J I0 I1 F D bar W):Bk W F 0 [PK M1 M2 J I0,PL I1]∧NsAt W (Ar [PK M1 M2 J I0,PL I1]) [0,0,0,0,0,0]:=by
 have m1:(1:Nat)≤maxLen:=by decide
 have m2:(2:Nat)≤maxLen:=by decide
 have z0:(0:Nat)≤maxLen:=by decide
 obtain ⟨hR,hT,h1,h2,hJ,hI0,hI1,hF,hD⟩:=h;refine ⟨⟨⟨Aa hF 0 rfl,Aa hF 1 rfl,Or.inr rfl,m2,?_⟩,⟨Aa hF 2 rfl,Aa hF 3 rfl,Or.inr rfl,m1,?_⟩,trivial⟩,?_⟩
 ·refine ⟨⟨Aa hI0 0 rfl,Aa hI0 1 rfl,Aa hI0 2 rfl,Aa hI0 4 rfl,Aa hI0 5 rfl⟩,⟨Or.inr rfl,m1,?_⟩,⟨Or.inl rfl,z0,trivial⟩,⟨Aa hI0 6 rfl,Aa hI0 7 rfl,Aa hI0 8 rfl,Aa hI0 10 rfl,Aa hI0 11 rfl⟩,⟨Or.inl rfl,z0,trivial⟩,⟨Or.inr rfl,m1,?_⟩,trivial⟩
  ·exact ⟨⟨Aa h1 0 rfl,Aa h1 1 rfl,Aa h1 2 rfl,Aa h1 3 rfl,Aa h1 4 rfl,Aa h1 5 rfl,Aa h1 6 rfl,Aa h1 8 rfl,Aa h1 9 rfl,Aa h1 10 rfl,Aa h1 11 rfl⟩,trivial⟩
  ·refine ⟨⟨Aa hJ 0 rfl,Aa hJ 1 rfl,Aa hJ 2 rfl,Aa hJ 4 rfl,Aa hJ 5 rfl⟩,⟨Or.inr rfl,m1,?_⟩,⟨Or.inl rfl,z0,trivial⟩,trivial⟩
   exact ⟨⟨Aa h2 0 rfl,Aa h2 1 rfl,Aa h2 2 rfl,Aa h2 3 rfl,Aa h2 4 rfl,Aa h2 5 rfl,Aa h2 6 rfl,Aa h2 8 rfl,Aa h2 9 rfl,Aa h2 10 rfl,Aa h2 11 rfl⟩,trivial⟩
 ·exact ⟨⟨Aa hI1 0 rfl,Aa hI1 1 rfl,Aa hI1 2 rfl,Aa hI1 4 rfl,Aa hI1 5 rfl⟩,⟨Or.inl rfl,z0,trivial⟩,⟨Or.inl rfl,z0,trivial⟩,trivial⟩
 ·exact ⟨Aa hI0 3 rfl,Aa h1 7 rfl,Aa hI0 9 rfl,Aa hJ 3 rfl,Aa h2 7 rfl,Aa hI1 3 rfl,trivial⟩
theorem SF{α:Type}{enc:α→List Value}{k n c b:Nat}{cs:Array Value}{t:TypeId}{xs:List α}(h:W.heap[b]?=some (.cells cs t (0,0)))(hn:xs.length=n)(hm:n≤maxLen)(hc:∀(i:Nat) (x:α),xs[i]?=some x→∀(j:Nat) (v:Value),(enc x)[j]?=some v→cs[i*k+j]?=some v):IsRow enc k W (.slice (FC b) n c) xs :=
 ⟨FC b,c,by rw [hn],by rw [hn];exact hm,Or.inr ⟨b,0,rfl,λi x hx j v hv=>Aa h _ (by rw [Nat.zero_add];exact hc i x hx j v hv),(qs.1 h).1⟩⟩
theorem Sm19.roles(h:Sm19 R T M1 M2 J I0 I1 F D bar W):IsRow CT 4 W (.slice (FC R) 2 2) [⟨[97],2,2,0⟩,⟨[98],5,5,4⟩] :=
 SF h.hR rfl (by decide) λi x hx j v hv=>by
  match i,hx with
  | 0,hx=>cases hx;match j,hv with
   | 0,hv=>exact hv
   | 1,hv=>exact hv
   | 2,hv=>exact hv
   | 3,hv=>exact hv
   | j+4,hv=>simp [CT] at hv
  | 1,hx=>cases hx;match j,hv with
   | 0,hv=>exact hv
   | 1,hv=>exact hv
   | 2,hv=>exact hv
   | 3,hv=>exact hv
   | j+4,hv=>simp [CT] at hv
  | i+2,hx=>simp at hx
theorem Sm19.tempos(h:Sm19 R T M1 M2 J I0 I1 F D bar W):IsRow BS 3 W (.slice (FC T) 1 1) [⟨0,4,0⟩] :=
 SF h.hT rfl (by decide) λi x hx j v hv=>by
  match i,hx with
  | 0,hx=>cases hx;match j,hv with
   | 0,hv=>exact hv
   | 1,hv=>exact hv
   | 2,hv=>exact hv
   | j+3,hv=>simp [BS] at hv
  | i+1,hx=>simp at hx
def KZ:List Int:=[0,0,0,0,0,0,0,0,1,1]
theorem Sm19.at_(h:Sm19 R T M1 M2 J I0 I1 F D bar W):(JY R T M1 M2 J I0 I1 F D bar).At W∧NsAt W (JY R T M1 M2 J I0 I1 F D bar).refs KZ:=by
 obtain ⟨p1,p2⟩:=h.phs;refine ⟨⟨h.roles,h.tempos,IsRow.nil,IsRow.nil,Or.inr rfl,(by decide:(2:Nat)≤maxLen),p1,Or.inr rfl,(by decide:(2:Nat)≤maxLen),⟨Aa h.hD 0 rfl,Aa h.hD 2 rfl,Aa h.hD 4 rfl,Aa h.hD 5 rfl⟩,⟨Aa h.hD 6 rfl,Aa h.hD 8 rfl,Aa h.hD 10 rfl,Aa h.hD 11 rfl⟩,trivial⟩,?_⟩;exact p2.append (ys:=Ao D 0 [⟨[97],[112],0,false⟩,⟨[98],[113],bar,true⟩]) (ks:=[0,0,1,1]) ⟨Aa h.hD 1 rfl,Aa h.hD 3 rfl,Aa h.hD 7 rfl,Aa h.hD 9 rfl,trivial⟩
theorem Sm19.em(h:Sm19 R T M1 M2 J I0 I1 F D bar W):(QS T M1 M2 J I0 I1 F).At W∧NsAt W (QS T M1 M2 J I0 I1 F).refs [0,0,0,0,0,0]:=by
 obtain ⟨p1,p2⟩:=h.phs;exact ⟨⟨IsRow.nil,h.tempos,IsRow.nil,IsRow.nil,Or.inr rfl,(by decide:(2:Nat)≤maxLen),p1,Or.inl rfl,Nat.zero_le _,trivial⟩,p2.append (ys:=[]) (ks:=[]) trivial⟩
theorem Sm19.keep{V:World}(h:Sm19 R T M1 M2 J I0 I1 F D bar W)(hb:Below W.heap.size W V):Sm19 R T M1 M2 J I0 I1 F D bar V :=
 ⟨Ah hb h.hR,Ah hb h.hT,Ah hb h.hM1,Ah hb h.hM2,Ah hb h.hJ,Ah hb h.hI0,Ah hb h.hI1,Ah hb h.hF,Ah hb h.hD⟩
theorem Sm19.late(h:Sm19 R T M1 M2 J I0 I1 F D bar W)(k:Int):Sm19 R T M1 M2 J I0 I1 F D k (W.setCell ⟨D,10,none⟩ (int i64 k)):=by
 have o:∀{b:Nat} {cs:Array Value} {t:TypeId},W.heap[b]?=some (.cells cs t (0,0))→t≠64→(W.setCell ⟨D,10,none⟩ (int i64 k)).heap[b]?=some (.cells cs t (0,0)):=λhb ht=>(AX _ (B6 hb h.hD ht)).trans hb
 exact ⟨o h.hR (by decide),o h.hT (by decide),o h.hM1 (by decide),o h.hM2 (by decide),o h.hJ (by decide),o h.hI0 (by decide),o h.hI1 (by decide),o h.hF (by decide),CY _ h.hD⟩
end
theorem Mn(R T M1 M2 J I0 I1 F D:Nat):B5 (JY R T M1 M2 J I0 I1 F D 1) KZ=0:=by kernel_rfl
theorem JJ(R T M1 M2 J I0 I1 F D:Nat):B5 (JY R T M1 M2 J I0 I1 F D 2) KZ=180:=by kernel_rfl
theorem LJ(T M1 M2 J I0 I1 F:Nat):B5 (QS T M1 M2 J I0 I1 F) [0,0,0,0,0,0]=0:=by kernel_rfl
def FU:List Sgn:=[⟨0,0,0,1,1,1,1,0,2,0,0,1,1,2⟩,⟨1,0,1,3,6,0,0,0,5,0,0,1,1,1⟩,⟨2,1,1,1,1,2,1,0,2,0,0,1,1,2⟩,⟨3,1,2,3,6,0,0,0,3,0,0,1,1,1⟩]
theorem Mm(R T M1 M2 J I0 I1 F D:Nat):DO (JY R T M1 M2 J I0 I1 F D 1)=FU:=by kernel_rfl
theorem Qk(R T M1 M2 J I0 I1 F D:Nat):(Ff (JY R T M1 M2 J I0 I1 F D 1)).length=4:=by kernel_rfl
def TV(wd:Int):Wrk:=⟨wd,10,1,0,1,[⟨[97],2,2,0⟩,⟨[98],5,5,4⟩],⟨3,[⟨0,4,0⟩],[],[]⟩,FU⟩
theorem Kf:Dc (TV 10)=0:=by kernel_rfl
theorem Qv:Dc (TV 0)=190:=by kernel_rfl
theorem Sn:Dc ⟨0,0,0,0,0,[],⟨0,[],[],[]⟩,[]⟩=130:=by kernel_rfl
theorem Vo:ofL 1 1 FU=[⟨2,1,1,1,1,2,1,0,2,0,0,1,1,2⟩]:=by kernel_rfl
structure Wk19(ra a0 a1 a2 a3:Option Addr)(rc c0 c1 c2 c3:Nat)(W:World):Prop where
 roles:IsRow CT 4 W (.slice ra 2 rc) [⟨[97],2,2,0⟩,⟨[98],5,5,4⟩]
 tempos:IsRow BS 3 W (.slice a0 1 c0) [⟨0,4,0⟩]
 pauses:IsRow Cx 4 W (.slice a1 0 c1) []
 spans:IsRow Cw 4 W (.slice a2 0 c2) []
 signs:IsRow Av 14 W (.slice a3 4 c3) FU
theorem Wk19.keep{ra a0 a1 a2 a3:Option Addr}{rc c0 c1 c2 c3:Nat}{W V:World}(h:Wk19 ra a0 a1 a2 a3 rc c0 c1 c2 c3 W)(hb:Below W.heap.size W V):Wk19 ra a0 a1 a2 a3 rc c0 c1 c2 c3 V :=
 ⟨h.roles.below hb (qn _),h.tempos.below hb (qn _),h.pauses.below hb (qn _),h.spans.below hb (qn _),h.signs.below hb (qn _)⟩
theorem Te{R T M1 M2 J I0 I1 F D:Nat}{V:World}(h:Sm19 R T M1 M2 J I0 I1 F D 1 V)(he:Env V):Calls Tryz.prog 11 #[.agg #[sv [119],int i64 10,int i64 10,int i64 3,int i64 1,int i64 0,.slice (some ⟨R,0,none⟩) 2 2,.slice (some ⟨T,0,none⟩) 1 1,.slice none 0 0,.slice none 0 0,.slice (some ⟨F,0,none⟩) 2 2,.slice (some ⟨D,0,none⟩) 2 2]] V λe w'=>Below V.heap.size V w'∧∃(ra a0 a1 a2 a3:Option Addr) (rc c0 c1 c2 c3:Nat),e=.returned (.tuple #[.agg #[int i64 10,int i64 10,int i64 1,int i64 0,int i64 1,.slice ra 2 rc,int i64 3,.slice a0 1 c0,.slice a1 0 c1,.slice a2 0 c2,.slice a3 4 c3],int i64 0])∧Wk19 ra a0 a1 a2 a3 rc c0 c1 c2 c3 w':=by
 refine (LN (JY R T M1 M2 J I0 I1 F D 1) KZ V h.at_.1 h.at_.2 he (Mn _ _ _ _ _ _ _ _ _) (by simp [JY,Tc])).mono ?_;rintro e w' ⟨hb,⟨hl,_⟩|⟨_,ra,a0,a1,a2,a3,rc,c0,c1,c2,c3,he,h1,h2,h3,h4,h5⟩⟩
 ·rw [Qk] at hl;omega
 ·rw [Mm] at he h5
  have hA:e=.returned (.tuple #[.agg #[int i64 10,int i64 10,int i64 (mkA 1 0),int i64 (mkB 1 0),int i64 (mkC 1 0),.slice ra 2 rc,int i64 3,.slice a0 1 c0,.slice a1 0 c1,.slice a2 0 c2,.slice a3 4 c3],int i64 0]):=he;rw [show mkA 1 0=1 by kernel_rfl,show mkB 1 0=0 by kernel_rfl,show mkC 1 0=1 by kernel_rfl] at hA;exact ⟨hb,ra,a0,a1,a2,a3,rc,c0,c1,c2,c3,hA,h1,h2,h3,h4,h5.1⟩
theorem Pa{R T M1 M2 J I0 I1 F D:Nat}{V:World}(h:Sm19 R T M1 M2 J I0 I1 F D 2 V)(he:Env V):Calls Tryz.prog 11 #[.agg #[sv [119],int i64 10,int i64 10,int i64 3,int i64 1,int i64 0,.slice (some ⟨R,0,none⟩) 2 2,.slice (some ⟨T,0,none⟩) 1 1,.slice none 0 0,.slice none 0 0,.slice (some ⟨F,0,none⟩) 2 2,.slice (some ⟨D,0,none⟩) 2 2]] V λe w'=>e=.returned (.tuple #[.agg #[int i64 0,int i64 0,int i64 0,int i64 0,int i64 0,.slice none 0 0,int i64 0,.slice none 0 0,.slice none 0 0,.slice none 0 0,.slice none 0 0],int i64 180])∧Below V.heap.size V w' :=
 LP (JY R T M1 M2 J I0 I1 F D 2) KZ 180 V h.at_.1 h.at_.2 he (JJ _ _ _ _ _ _ _ _ _) (by decide)
theorem Td{R T M1 M2 J I0 I1 F D:Nat}{bar:Int}{V:World}(h:Sm19 R T M1 M2 J I0 I1 F D bar V)(he:Env V):Calls Tryz.prog 11 #[.agg #[sv [119],int i64 10,int i64 10,int i64 3,int i64 1,int i64 0,.slice none 0 0,.slice (some ⟨T,0,none⟩) 1 1,.slice none 0 0,.slice none 0 0,.slice (some ⟨F,0,none⟩) 2 2,.slice none 0 0]] V λe w'=>e=.returned (.tuple #[.agg #[int i64 0,int i64 0,int i64 0,int i64 0,int i64 0,.slice none 0 0,int i64 0,.slice none 0 0,.slice none 0 0,.slice none 0 0,.slice none 0 0],int i64 190])∧Below V.heap.size V w' :=
 Kv (QS T M1 M2 J I0 I1 F) _ V h.em.1 h.em.2 he (LJ _ _ _ _ _ _ _) rfl
theorem Sw{wd:Int}{ra a0 a1 a2 a3:Option Addr}{rc c0 c1 c2 c3:Nat}{V:World}(h:Wk19 ra a0 a1 a2 a3 rc c0 c1 c2 c3 V)(he:EnvK V):Calls Tryz.prog 17 #[.agg #[int i64 wd,int i64 10,int i64 1,int i64 0,int i64 1,.slice ra 2 rc,int i64 3,.slice a0 1 c0,.slice a1 0 c1,.slice a2 0 c2,.slice a3 4 c3]] V λe w'=>e=.returned (int i64 (Dc (TV wd)))∧Below V.heap.size V w' :=
 DN wd 10 1 0 1 3 ra a0 a1 a2 a3 rc c0 c1 c2 c3 [⟨[97],2,2,0⟩,⟨[98],5,5,4⟩] [⟨0,4,0⟩] [] [] FU V he h.roles h.tempos h.pauses h.spans h.signs
theorem PI{α:Type}{l:List α}{x:α}(h1:l.length=1)(h2:∀y,y∈l↔y∈[x]):l=[x]:=by
 obtain ⟨y,rfl⟩:=List.length_eq_one_iff.1 h1;have:=(h2 y).1 (by simp);simp at this;rw [this]
theorem PH{ra a0 a1 a2 a3:Option Addr}{rc c0 c1 c2 c3:Nat}{V:World}(h:Wk19 ra a0 a1 a2 a3 rc c0 c1 c2 c3 V)(he:EnvK V):Calls Tryz.prog 15 #[.agg #[int i64 10,int i64 10,int i64 1,int i64 0,int i64 1,.slice ra 2 rc,int i64 3,.slice a0 1 c0,.slice a1 0 c1,.slice a2 0 c2,.slice a3 4 c3],int i64 1,int i64 1] V λe w'=>Below V.heap.size V w'∧∃(ao:Option Addr) (c:Nat),e=.returned (.tuple #[.slice ao 1 c,int i64 0])∧IsRow Av 14 w' (.slice ao 1 c) [⟨2,1,1,1,1,2,1,0,2,0,0,1,1,2⟩]:=by
 refine (Ts 10 10 1 0 1 3 ra a0 a1 a2 a3 rc c0 c1 c2 c3 [⟨[97],2,2,0⟩,⟨[98],5,5,4⟩] [⟨0,4,0⟩] [] [] FU 1 1 V he h.roles h.tempos h.pauses h.spans h.signs Kf (by kernel_rfl) (by kernel_rfl)).mono ?_;rintro e w' ⟨hb,ao,c,l,rfl,h1,h2,h3,_⟩;rw [Vo] at h2 h3;have:=PI h2 h3;subst this;exact ⟨hb,ao,c,rfl,h1⟩
theorem NL{ra a0 a1 a2 a3:Option Addr}{rc c0 c1 c2 c3:Nat}{V:World}(h:Wk19 ra a0 a1 a2 a3 rc c0 c1 c2 c3 V)(he:EnvK V):Calls Tryz.prog 15 #[.agg #[int i64 10,int i64 10,int i64 1,int i64 0,int i64 1,.slice ra 2 rc,int i64 3,.slice a0 1 c0,.slice a1 0 c1,.slice a2 0 c2,.slice a3 4 c3],int i64 (-1),int i64 0] V λe w'=>e=.returned (.tuple #[.slice none 0 0,int i64 1])∧Below V.heap.size V w' :=
 Rn 10 10 1 0 1 3 ra a0 a1 a2 a3 rc c0 c1 c2 c3 [⟨[97],2,2,0⟩,⟨[98],5,5,4⟩] [⟨0,4,0⟩] [] [] FU (-1) 0 V he h.roles h.tempos h.pauses h.spans h.signs Kf (by kernel_rfl) (by decide)
end
section
open Go Go.RowKit Go.Shelf Go.Deep
theorem Dn{P:Program}{ops:Array Oper}{rest:List Oper}{o:Oper}{a:Act}{w:World}{Q:Exit→Act→World→Prop}(hA:Region.wanted o (yielded ops a.tmps)=true)(ty:TypeId)(x:Operand)(ho:o.op=.load ty x)
  (g:Nat) (hx:a.eval x=.pointer (some ⟨g,0,none⟩)) (t:TypeId) (cs:Array Value) (fr:Nat×Nat) (d:TypeDesc) (hg:w.heap[g]?=some (.cells cs t fr))
  (hu:P.underlying ty=some d) (hd:(match d with|.struct _|.array _ _=>true|_=>false)=true) (hi:(P.info? ty).map (·.size)=some cs.size)
  (h:wpList P ops Q rest (a.put o.dst (.agg cs)) w):wpList P ops Q (o::rest) a w :=
 wpList_step λK hK=>by rw [if_pos hA];exact wp_load_row ty x ho g hx t cs fr d hg hu hd hi (hK _ _ h)
theorem F7{P:Program}{ops:Array Oper}{rest:List Oper}{op:Oper}{a:Act}{w:World}{Q:Exit→Act→World→Prop}(hA:Region.wanted op (yielded ops a.tmps)=true)(ty:TypeId)(x:Operand)(ho:op.op=.load ty x)
  (b o:Nat) (hx:a.eval x=.pointer (some ⟨b,o,none⟩)) (cs:List Value) (d:TypeDesc) (hc:w.rangeAt b o cs)
  (hu:P.underlying ty=some d) (hd:d.isRow=true) (hi:(P.info? ty).map (·.size)=some cs.length)
  (h:wpList P ops Q rest (a.put op.dst (.agg cs.toArray)) w):wpList P ops Q (op::rest) a w :=
 wpList_step λK hK=>by rw [if_pos hA];exact wp_load_mid ty x ho b o hx cs d hc hu hd hi (hK _ _ h)
theorem Kc:Tryz.prog.eqGuardType Tryz.prog.depth 34=false:=by kernel_rfl
theorem P9(a:Act)(o:Oper)(x y:Operand)(t:TypeId)(ho:o.op=.binOp .neq 34 x y t)(hx:a.eval x=.agg #[int i64 1,int i64 0,int i64 1])(hy:a.eval y=.agg #[int i64 1,int i64 0,int i64 1])(w:World):(execOp a.eval o).run Tryz.prog w=.ok (.value (.bool false)) w:=by
 have hS:Tryz.prog.underlying 34=some (.struct (Tryz.prog.fieldsOf 34)):=by kernel_rfl
 have hp:Tryz.prog.stoodInHeld 34=false:=by kernel_rfl
 have u3:=Tryz.underlying3;have q3:=Tryz.isAgg3;have z3:=Tryz.sizeOf3;unfold execOp;simp only [ho,hx,hy,Sem.run_bind,Sem.run_pure,run_eqGuard_agg w .neq 34 x y _ _ Kc,Result.andThen_ok,run_neq_struct];rw [show (10000:Nat)=9999+1 from rfl,run_equalIn_agg w 9999 34 _ _ hS hp];clear hS hp;simp only [Program.fieldsOf,Tryz.underlying34,Op.eqFields];go_simp
structure SN(w:World)(X:Nat)(ra a0 a1 a2 a3:Option Addr)(rc c0 c1 c2 c3:Nat)(V:World):Prop where
 base:Below w.heap.size w V
 x:V.heap[X]?=some (.cells #[int i64 10,int i64 10,int i64 1,int i64 0,int i64 1,.slice ra 2 rc,int i64 3,.slice a0 1 c0,.slice a1 0 c1,.slice a2 0 c2,.slice a3 4 c3] 39 (0,0))
 wk:Wk19 ra a0 a1 a2 a3 rc c0 c1 c2 c3 V
 low:w.heap.size≤X
theorem SN.keep{w:World}{X:Nat}{ra a0 a1 a2 a3:Option Addr}{rc c0 c1 c2 c3:Nat}{V V':World}(h:SN w X ra a0 a1 a2 a3 rc c0 c1 c2 c3 V)(hb:Below V.heap.size V V'):SN w X ra a0 a1 a2 a3 rc c0 c1 c2 c3 V':=⟨Ag h.base hb,Ah hb h.x,h.wk.keep hb,h.low⟩
theorem Qe{W:World}{Y:Nat}(h:W.heap[Y]?=some (.cells #[int i64 0,int i64 0,int i64 0,int i64 1,int i64 1,int i64 1,int i64 1,int i64 0,int i64 2,int i64 0,int i64 0,int i64 1,int i64 1,int i64 2,int i64 1,int i64 0,int i64 1,int i64 3,int i64 6,int i64 0,int i64 0,int i64 0,int i64 5,int i64 0,int i64 0,int i64 1,int i64 1,int i64 1,int i64 2,int i64 1,int i64 1,int i64 1,int i64 1,int i64 2,int i64 1,int i64 0,int i64 2,int i64 0,int i64 0,int i64 1,int i64 1,int i64 2,int i64 3,int i64 1,int i64 2,int i64 3,int i64 6,int i64 0,int i64 0,int i64 0,int i64 3,int i64 0,int i64 0,int i64 1,int i64 1,int i64 1] 54 (0,0))):IsRow Av 14 W (.slice (some ⟨Y,0,none⟩) 4 4) FU∧IsRow Av 14 W (.slice (some ⟨Y,28,none⟩) 1 2) [⟨2,1,1,1,1,2,1,0,2,0,0,1,1,2⟩]:=by
 have hl:=(qs.1 h).1;refine ⟨⟨_,_,rfl,by decide,Or.inr ⟨Y,0,rfl,(Ei (enc:=Av) (k:=14) (λx=>rfl)).2 λj u hj=>?_,hl⟩⟩,⟨_,_,rfl,by decide,Or.inr ⟨Y,28,rfl,(Ei (enc:=Av) (k:=14) (λx=>rfl)).2 λj u hj=>?_,hl⟩⟩⟩
 ·rw [Nat.zero_add];exact Aa h j (by simpa [FU,Av] using hj)
 ·refine Aa h (28+j) ?_
  match j,hj with
  | 0,hj=>exact hj
  | 1,hj=>exact hj
  | 2,hj=>exact hj
  | 3,hj=>exact hj
  | 4,hj=>exact hj
  | 5,hj=>exact hj
  | 6,hj=>exact hj
  | 7,hj=>exact hj
  | 8,hj=>exact hj
  | 9,hj=>exact hj
  | 10,hj=>exact hj
  | 11,hj=>exact hj
  | 12,hj=>exact hj
  | 13,hj=>exact hj
  | j+14,hj=>simp [Av] at hj
theorem TY(w:World)(hE:∀V,Below w.heap.size w V→Env V∧EnvK V):Calls Tryz.prog 9 #[] w λe w'=>e=.returned (.bool true)∧Below w.heap.size w w':=by
 have HE:=qh hE;clear hE;have st0:True:=trivial;go_enter Tryz.func9,Tryz.ntmps9
 go_wp2_with (first
  | (have q:=st0;clear q;go_at_call 23;refine (Em _).mono ?_;rintro e V1 ⟨R,T,M1,M2,J,I0,I1,F,D,rfl,hs,hd,hb⟩;have hV:=qh hs;have hJ:=qh hb;clear hs hd hb;clear st0;have st1:True:=trivial)
  | (have q:=st1;clear q;go_at_call 11;refine (Te hV.out (HE.out _ hJ.out).1).mono ?_;rintro e V2 ⟨hb,ra,a0,a1,a2,a3,rc,c0,c1,c2,c3,rfl,hw⟩;obtain ⟨A1,xA1,gA1,bA1,sA1⟩:=Af V2 #[int i64 10,int i64 10,int i64 1,int i64 0,int i64 1,.slice ra 2 rc,int i64 3,.slice a0 1 c0,.slice a1 0 c1,.slice a2 0 c2,.slice a3 4 c3] 39;obtain ⟨X,hX⟩:∃X,V2.heap.size=X:=⟨_,rfl⟩;have hA:=qh (show SN w X ra a0 a1 a2 a3 rc c0 c1 c2 c3 A1 from ⟨Ag hJ.out (Ag hb bA1),by rw [← hX];exact gA1,hw.keep bA1,by rw [← hX];exact Nat.le_trans hJ.out.size hb.size⟩);have x5:A1.cell? ⟨X,5,none⟩=some (.slice ra 2 rc):=Aa hA.out.x 5 rfl;have x6:A1.cell? ⟨X,6,none⟩=some (int i64 3):=Aa hA.out.x 6 rfl;have x10:A1.cell? ⟨X,10,none⟩=some (.slice a3 4 c3):=Aa hA.out.x 10 rfl;have HX:=qh hX;clear hb hw gA1 bA1 sA1;clear st1;have st2:True:=trivial)
  | (have q:=st2;clear q;refine F7 (by kernel_rfl) 34 _ rfl X 2 (by first|rfl|(rw [HX.out];rfl)) [int i64 1,int i64 0,int i64 1] _ (λj u hj=>Aa hA.out.x (2+j) (by match j,hj with|0,hj=>exact hj|1,hj=>exact hj|2,hj=>exact hj)) Tryz.underlying34 rfl (by kernel_rfl) ?_;simp only [Act.put,qD,qE,qF];clear st2;have st3:True:=trivial)
  | (have q:=st3;clear q;refine EN (by kernel_rfl) (.bool false) (P9 _ _ _ _ _ rfl rfl rfl _) ?_;simp only [Act.put,qD,qE,qF];clear st3;have st4:True:=trivial)
  | (have q:=st4;clear q;refine Dn (by kernel_rfl) 39 _ rfl X rfl 39 #[int i64 10,int i64 10,int i64 1,int i64 0,int i64 1,.slice ra 2 rc,int i64 3,.slice a0 1 c0,.slice a1 0 c1,.slice a2 0 c2,.slice a3 4 c3] (0,0) _ hA.out.x Tryz.underlying39 rfl (by kernel_rfl) ?_;simp only [Act.put,qD,qE,qF];clear st4;have st5:True:=trivial)
  | (have q:=st5;clear q;go_at_call 17;refine (Sw hA.out.wk (HE.out _ hA.out.base).2).mono ?_;rw [Kf];rintro e V3 ⟨rfl,hb⟩;replace hA:=qh (hA.out.keep hb);clear hb x5 x6 x10;obtain ⟨A2,xA2,gA2,bA2,sA2⟩:=Af V3 #[int i64 1,int i64 2] 52;obtain ⟨H,hH⟩:∃X,V3.heap.size=X:=⟨_,rfl⟩;replace hA:=qh (hA.out.keep bA2);rw [hH] at gA2;have HH:=qh gA2;clear gA2 bA2 sA2;clear st5;have st6:True:=trivial))
 obtain ⟨wd,hL⟩:∃wd:World,{ A2 with drawn:=A2.drawn+1 }=wd:=⟨_,rfl⟩;have hM:Below A2.heap.size A2 wd:=by rw [← hL];exact (Below.refl _ _).drew
 replace hA:=qh (hA.out.keep hM)
 have HR:=qh (Ah hM HH.out);clear HH;refine wp_region_held (S:=λV=>V.heap[H]?=some (.cells #[int i64 1,int i64 2] 52 (0,0))) (by kernel_rfl) ?_;have hZ:=qh hL;clear hL hM;rw [hZ.out];refine tq 1 _ (.agg #[int i64 1,int i64 2]) rfl (by kernel_rfl) (λ_ _ _ h=>h) (Cv rfl 52 _ rfl H rfl 52 #[int i64 1,int i64 2] (0,0) _ (λ_ h=>h) Tryz.underlying52 rfl (by kernel_rfl)) HR.out ?_
 try simp only [Act.put,qz]
 refine tq 7 _ (.agg #[int i64 1,int i64 2]) rfl (by kernel_rfl) (λ_ _ _ h=>h) (Cv rfl 52 _ rfl H rfl 52 #[int i64 1,int i64 2] (0,0) _ (λ_ h=>h) Tryz.underlying52 rfl (by kernel_rfl)) HR.out ?_
 try simp only [Act.put,qz]
 refine tr 0 _ (by kernel_rfl) rfl λK1 hK=>?_
 go_simp;refine (Cg _).mono ?_;rintro e U1 ⟨rfl,hb⟩
 replace hA:=qh (hA.out.keep hb)
 replace HR:=qh (Ah hb HR.out);clear hb
 refine hK.out _ _ HR.out (λ_=>?_);clear hK K1
 try simp only [Act.put,qz]
 refine tk 2 _ (.agg #[int i64 0,int i64 0,int i64 0,int i64 1,int i64 1,int i64 1,int i64 1,int i64 0,int i64 2,int i64 0,int i64 0,int i64 1,int i64 1,int i64 2]) rfl (λV hb=>by go_simp) HR.out ?_
 try simp only [Act.put,qz]
 refine tr 3 _ (by kernel_rfl) rfl λK1 hK=>?_
 go_simp;refine (Cg _).mono ?_;rintro e U2 ⟨rfl,hb⟩
 replace hA:=qh (hA.out.keep hb)
 replace HR:=qh (Ah hb HR.out);clear hb
 refine hK.out _ _ HR.out (λ_=>?_);clear hK K1
 try simp only [Act.put,qz]
 refine tr 4 _ (by kernel_rfl) rfl λK1 hK=>?_
 go_simp;refine (FT _).mono ?_;rintro e U3 ⟨rfl,hb⟩
 replace hA:=qh (hA.out.keep hb)
 replace HR:=qh (Ah hb HR.out);clear hb
 refine hK.out _ _ HR.out (λ_=>?_);clear hK K1
 try simp only [Act.put,qz]
 refine tk 5 _ (.agg #[int i64 1,int i64 0,int i64 1,int i64 3,int i64 6,int i64 0,int i64 0,int i64 0,int i64 5,int i64 0,int i64 0,int i64 1,int i64 1,int i64 1]) rfl (λV hb=>by go_simp) HR.out ?_
 try simp only [Act.put,qz]
 refine tr 6 _ (by kernel_rfl) rfl λK1 hK=>?_
 go_simp;refine (Cg _).mono ?_;rintro e U4 ⟨rfl,hb⟩
 replace hA:=qh (hA.out.keep hb)
 replace HR:=qh (Ah hb HR.out);clear hb
 refine hK.out _ _ HR.out (λ_=>?_);clear hK K1
 try simp only [Act.put,qz]
 refine tk 8 _ (.agg #[int i64 2,int i64 1,int i64 1,int i64 1,int i64 1,int i64 2,int i64 1,int i64 0,int i64 2,int i64 0,int i64 0,int i64 1,int i64 1,int i64 2]) rfl (λV hb=>by go_simp) HR.out ?_
 try simp only [Act.put,qz]
 refine tr 9 _ (by kernel_rfl) rfl λK1 hK=>?_
 go_simp;refine (Cg _).mono ?_;rintro e U5 ⟨rfl,hb⟩
 replace hA:=qh (hA.out.keep hb)
 replace HR:=qh (Ah hb HR.out);clear hb
 refine hK.out _ _ HR.out (λ_=>?_);clear hK K1
 try simp only [Act.put,qz]
 refine tr 10 _ (by kernel_rfl) rfl λK1 hK=>?_
 go_simp;refine (FT _).mono ?_;rintro e U6 ⟨rfl,hb⟩
 replace hA:=qh (hA.out.keep hb)
 replace HR:=qh (Ah hb HR.out);clear hb
 refine hK.out _ _ HR.out (λ_=>?_);clear hK K1
 try simp only [Act.put,qz]
 refine tk 11 _ (.agg #[int i64 3,int i64 1,int i64 2,int i64 3,int i64 6,int i64 0,int i64 0,int i64 0,int i64 3,int i64 0,int i64 0,int i64 1,int i64 1,int i64 1]) rfl (λV hb=>by go_simp) HR.out ?_
 try simp only [Act.put,qz]
 refine tr 12 _ (by kernel_rfl) rfl λK1 hK=>?_
 obtain ⟨A3,xA3,gA3,bA3,sA3⟩:=Af U6 #[int i64 0,int i64 0,int i64 0,int i64 1,int i64 1,int i64 1,int i64 1,int i64 0,int i64 2,int i64 0,int i64 0,int i64 1,int i64 1,int i64 2,int i64 1,int i64 0,int i64 1,int i64 3,int i64 6,int i64 0,int i64 0,int i64 0,int i64 5,int i64 0,int i64 0,int i64 1,int i64 1,int i64 1,int i64 2,int i64 1,int i64 1,int i64 1,int i64 1,int i64 2,int i64 1,int i64 0,int i64 2,int i64 0,int i64 0,int i64 1,int i64 1,int i64 2,int i64 3,int i64 1,int i64 2,int i64 3,int i64 6,int i64 0,int i64 0,int i64 0,int i64 3,int i64 0,int i64 0,int i64 1,int i64 1,int i64 1] 54;obtain ⟨Y,hY⟩:∃X,U6.heap.size=X:=⟨_,rfl⟩;rw [hY] at gA3
 replace hA:=qh (hA.out.keep bA3)
 replace HR:=qh (Ah bA3 HR.out)
 have HY:=qh (Qe gA3);clear gA3 bA3 sA3;go_simp;refine hK.out _ _ HR.out (λ_=>?_);clear hK K1
 try simp only [Act.put,qz]
 refine tk 13 _ (.slice (some ⟨Y,0,none⟩) 4 4) rfl (λV hb=>by go_simp) HR.out ?_
 try simp only [Act.put,qz]
 refine wpAnyH_done (by kernel_rfl) ?_ _
 go_wp2_with (first
  | (have q:=st6;clear q;refine wpList_load_row rfl 39 _ rfl X rfl 39 #[int i64 10,int i64 10,int i64 1,int i64 0,int i64 1,.slice ra 2 rc,int i64 3,.slice a0 1 c0,.slice a1 0 c1,.slice a2 0 c2,.slice a3 4 c3] (0,0) _ hA.out.x Tryz.underlying39 rfl (by kernel_rfl) ?_;simp only [Act.put,qD,qE,qF];clear st6;have st7:True:=trivial)
  | (have q:=st7;clear q;go_at_call 15;refine (PH hA.out.wk (HE.out _ hA.out.base).2).mono ?_;rintro e V4 ⟨hb,lo,lc,rfl,hl⟩;replace hA:=qh (hA.out.keep hb);replace HY:=qh (And.intro (HY.out.1.below hb (qn _)) (HY.out.2.below hb (qn _)));have HL:=qh hl;clear hl hb;clear st7;have st8:True:=trivial)
  | (have q:=st8;clear q;refine wpList_load_row rfl 39 _ rfl X rfl 39 #[int i64 10,int i64 10,int i64 1,int i64 0,int i64 1,.slice ra 2 rc,int i64 3,.slice a0 1 c0,.slice a1 0 c1,.slice a2 0 c2,.slice a3 4 c3] (0,0) _ hA.out.x Tryz.underlying39 rfl (by kernel_rfl) ?_;simp only [Act.put,qD,qE,qF];clear st8;have st9:True:=trivial)
  | (have q:=st9;clear q;go_at_call 15;refine (NL hA.out.wk (HE.out _ hA.out.base).2).mono ?_;rintro e V5 ⟨rfl,hb⟩;replace hA:=qh (hA.out.keep hb);replace HY:=qh (And.intro (HY.out.1.below hb (qn _)) (HY.out.2.below hb (qn _)));replace HL:=qh (HL.out.below hb (qn _));clear hb;have x10:V5.cell? ⟨X,10,none⟩=some (.slice a3 4 c3):=Aa hA.out.x 10 rfl;clear st9;have st10:True:=trivial)
  | (have q:=st10;clear q;go_at_call 19;refine (In FU FU a3 (some ⟨Y,0,none⟩) c3 4 V5 hA.out.wk.signs HY.out.1).mono ?_;rw [decide_eq_true (rfl:FU=FU)];rintro e V6 ⟨rfl,hb⟩;replace hA:=qh (hA.out.keep hb);replace HY:=qh (And.intro (HY.out.1.below hb (qn _)) (HY.out.2.below hb (qn _)));replace HL:=qh (HL.out.below hb (qn _));clear hb x10;clear st10;have st11:True:=trivial)
  | (have q:=st11;clear q;go_at_call 19;refine (In [⟨2,1,1,1,1,2,1,0,2,0,0,1,1,2⟩] [⟨2,1,1,1,1,2,1,0,2,0,0,1,1,2⟩] lo (some ⟨Y,28,none⟩) lc 2 V6 HL.out HY.out.2).mono ?_;rw [decide_eq_true (rfl:([⟨2,1,1,1,1,2,1,0,2,0,0,1,1,2⟩]:List Sgn)=[⟨2,1,1,1,1,2,1,0,2,0,0,1,1,2⟩])];rintro e V7 ⟨rfl,hb⟩;replace hA:=qh (hA.out.keep hb);clear HL HY hb;clear st11;have st12:True:=trivial)
  | (have q:=st12;clear q;refine wpList_load_row rfl 39 _ rfl X rfl 39 #[int i64 10,int i64 10,int i64 1,int i64 0,int i64 1,.slice ra 2 rc,int i64 3,.slice a0 1 c0,.slice a1 0 c1,.slice a2 0 c2,.slice a3 4 c3] (0,0) _ hA.out.x Tryz.underlying39 rfl (by kernel_rfl) ?_;simp only [Act.put,qD,qE,qF];obtain ⟨A4,xA4,gA4,bA4,sA4⟩:=Af V7 #[int i64 10,int i64 10,int i64 1,int i64 0,int i64 1,.slice ra 2 rc,int i64 3,.slice a0 1 c0,.slice a1 0 c1,.slice a2 0 c2,.slice a3 4 c3] 39;obtain ⟨X2,hQ⟩:∃X,V7.heap.size=X:=⟨_,rfl⟩;rw [hQ] at gA4;obtain ⟨A5,eA5,gA5,oA5,bA5,cA5,fA5⟩:=CH (i:=0) (v:=int i64 0) (cs':=#[int i64 0,int i64 10,int i64 1,int i64 0,int i64 1,.slice ra 2 rc,int i64 3,.slice a0 1 c0,.slice a1 0 c1,.slice a2 0 c2,.slice a3 4 c3]) gA4 rfl rfl;have hG:=bA4.trans (bA5 V7.heap.size (Nat.le_of_eq hQ));replace hA:=qh (hA.out.keep hG);have hB:=qh gA5;clear gA4 bA4 sA4 gA5 oA5 bA5 hG;clear st12;have st13:True:=trivial)
  | (have q:=st13;clear q;go_at_call 23;refine (Em _).mono ?_;rintro e V8 ⟨R2,T2,M3,M4,J2,I2,I3,F2,D2,rfl,hs,hd,hb⟩;obtain ⟨A6,xA6,gA6,bA6,sA6⟩:=Af V8 #[sv [119],int i64 10,int i64 10,int i64 3,int i64 1,int i64 0,.slice (some ⟨R2,0,none⟩) 2 2,.slice (some ⟨T2,0,none⟩) 1 1,.slice none 0 0,.slice none 0 0,.slice (some ⟨F2,0,none⟩) 2 2,.slice (some ⟨D2,0,none⟩) 2 2] 30;obtain ⟨X4,ha⟩:∃X,V8.heap.size=X:=⟨_,rfl⟩;rw [ha] at gA6;have cA6:A6.cell? ⟨X4,11,none⟩=some (.slice (some ⟨D2,0,none⟩) 2 2):=Aa gA6 11 rfl;have hI:=hs.keep bA6;obtain ⟨A7,eA7,gA7,oA7,bA7,cA7,fA7⟩:=CH (i:=10) (v:=int i64 2) hI.hD rfl rfl;have hN:=hI.late 2;rw [eA7] at hN;have hR:=qh hN;have hS:=qh ((oA7 X4 (B6 gA6 hI.hD (by decide))).trans gA6);have hC:=(Ag hb bA6).trans (bA7 A5.heap.size hd);replace hA:=qh (hA.out.keep hC);replace hB:=qh (Ah hC hB.out);clear gA6 bA6 sA6 hI gA7 oA7 bA7 hs hd hb hC hN;clear st13;have st14:True:=trivial)
  | (have q:=st14;clear q;refine wpList_load_row rfl 30 _ rfl X4 rfl 30 #[sv [119],int i64 10,int i64 10,int i64 3,int i64 1,int i64 0,.slice (some ⟨R2,0,none⟩) 2 2,.slice (some ⟨T2,0,none⟩) 1 1,.slice none 0 0,.slice none 0 0,.slice (some ⟨F2,0,none⟩) 2 2,.slice (some ⟨D2,0,none⟩) 2 2] (0,0) _ hS.out Tryz.underlying30 rfl (by kernel_rfl) ?_;simp only [Act.put,qD,qE,qF];clear st14;have st15:True:=trivial)
  | (have q:=st15;clear q;go_at_call 11;refine (Pa hR.out (HE.out _ hA.out.base).1).mono ?_;rintro e V9 ⟨rfl,hb⟩;obtain ⟨A8,xA8,gA8,bA8,sA8⟩:=Af V9 #[int i64 0,int i64 0,int i64 0,int i64 0,int i64 0,.slice none 0 0,int i64 0,.slice none 0 0,.slice none 0 0,.slice none 0 0,.slice none 0 0] 39;replace hA:=qh (hA.out.keep hb);replace hB:=qh (Ah hb hB.out);have G8:=qh gA8;have B8:=qh bA8;clear hS hR cA6 hb gA8 bA8 sA8;clear st15;have st16:True:=trivial)
  | (have q:=st16;clear q;refine wpList_store_row rfl 39 _ _ rfl V9.heap.size #[int i64 0,int i64 0,int i64 0,int i64 0,int i64 0,.slice none 0 0,int i64 0,.slice none 0 0,.slice none 0 0,.slice none 0 0,.slice none 0 0] rfl rfl 39 _ G8.out (by kernel_rfl) rfl (by simp [Value.oneCell']) ?_;obtain ⟨W9,hW,gW,bW⟩:=AO (cs:=#[int i64 0,int i64 0,int i64 0,int i64 0,int i64 0,.slice none 0 0,int i64 0,.slice none 0 0,.slice none 0 0,.slice none 0 0,.slice none 0 0]) G8.out B8.out (qn _);rw [hW];replace hA:=qh (hA.out.keep bW);replace hB:=qh (Ah bW hB.out);clear G8 B8 hW gW bW;clear st16;have st17:True:=trivial)
  | (have q:=st17;clear q;go_at_call 23;refine (Em _).mono ?_;rintro e V10 ⟨R3,T3,M5,M6,J3,I4,I5,F3,D3,rfl,hs,hd,hb⟩;obtain ⟨A9,xA9,gA9,bA9,sA9⟩:=Af V10 #[sv [119],int i64 10,int i64 10,int i64 3,int i64 1,int i64 0,.slice (some ⟨R3,0,none⟩) 2 2,.slice (some ⟨T3,0,none⟩) 1 1,.slice none 0 0,.slice none 0 0,.slice (some ⟨F3,0,none⟩) 2 2,.slice (some ⟨D3,0,none⟩) 2 2] 30;obtain ⟨X6,hO⟩:∃X,V10.heap.size=X:=⟨_,rfl⟩;rw [hO] at gA9;obtain ⟨A10,eA10,gA10,oA10,bA10,cA10,fA10⟩:=CH (i:=6) (v:=.slice none 0 0) (cs':=#[sv [119],int i64 10,int i64 10,int i64 3,int i64 1,int i64 0,.slice none 0 0,.slice (some ⟨T3,0,none⟩) 1 1,.slice none 0 0,.slice none 0 0,.slice (some ⟨F3,0,none⟩) 2 2,.slice (some ⟨D3,0,none⟩) 2 2]) gA9 rfl rfl;obtain ⟨A11,eA11,gA11,oA11,bA11,cA11,fA11⟩:=CH (i:=11) (v:=.slice none 0 0) (cs':=#[sv [119],int i64 10,int i64 10,int i64 3,int i64 1,int i64 0,.slice none 0 0,.slice (some ⟨T3,0,none⟩) 1 1,.slice none 0 0,.slice none 0 0,.slice (some ⟨F3,0,none⟩) 2 2,.slice none 0 0]) gA10 rfl rfl;have hP:=bA9.trans ((bA10 V10.heap.size (Nat.le_of_eq hO)).trans (bA11 V10.heap.size (Nat.le_of_eq hO)));have hT:=qh (hs.keep hP);have hU:=qh gA11;have hF:=Ag hb hP;replace hA:=qh (hA.out.keep hF);replace hB:=qh (Ah hF hB.out);clear gA9 bA9 sA9 gA10 oA10 bA10 gA11 oA11 bA11 hs hd hb hP hF;clear st17;have st18:True:=trivial)
  | (have q:=st18;clear q;refine wpList_load_row rfl 30 _ rfl X6 rfl 30 #[sv [119],int i64 10,int i64 10,int i64 3,int i64 1,int i64 0,.slice none 0 0,.slice (some ⟨T3,0,none⟩) 1 1,.slice none 0 0,.slice none 0 0,.slice (some ⟨F3,0,none⟩) 2 2,.slice none 0 0] (0,0) _ hU.out Tryz.underlying30 rfl (by kernel_rfl) ?_;simp only [Act.put,qD,qE,qF];clear st18;have st19:True:=trivial)
  | (have q:=st19;clear q;go_at_call 11;refine (Td hT.out (HE.out _ hA.out.base).1).mono ?_;rintro e V11 ⟨rfl,hb⟩;obtain ⟨A12,xA12,gA12,bA12,sA12⟩:=Af V11 #[int i64 0,int i64 0,int i64 0,int i64 0,int i64 0,.slice none 0 0,int i64 0,.slice none 0 0,.slice none 0 0,.slice none 0 0,.slice none 0 0] 39;replace hA:=qh (hA.out.keep hb);replace hB:=qh (Ah hb hB.out);have G8:=qh gA12;have B8:=qh bA12;clear hU hT hb gA12 bA12 sA12;clear st19;have st20:True:=trivial)
  | (have q:=st20;clear q;refine wpList_store_row rfl 39 _ _ rfl V11.heap.size #[int i64 0,int i64 0,int i64 0,int i64 0,int i64 0,.slice none 0 0,int i64 0,.slice none 0 0,.slice none 0 0,.slice none 0 0,.slice none 0 0] rfl rfl 39 _ G8.out (by kernel_rfl) rfl (by simp [Value.oneCell']) ?_;obtain ⟨W11,hW,gW,bW⟩:=AO (cs:=#[int i64 0,int i64 0,int i64 0,int i64 0,int i64 0,.slice none 0 0,int i64 0,.slice none 0 0,.slice none 0 0,.slice none 0 0,.slice none 0 0]) G8.out B8.out (qn _);rw [hW];replace hA:=qh (hA.out.keep bW);replace hB:=qh (Ah bW hB.out);clear G8 B8 hW gW bW;clear st20;have st21:True:=trivial)
  | (have q:=st21;clear q;refine Dn (by kernel_rfl) 39 _ rfl X2 rfl 39 #[int i64 0,int i64 10,int i64 1,int i64 0,int i64 1,.slice ra 2 rc,int i64 3,.slice a0 1 c0,.slice a1 0 c1,.slice a2 0 c2,.slice a3 4 c3] (0,0) _ hB.out Tryz.underlying39 rfl (by kernel_rfl) ?_;simp only [Act.put,qD,qE,qF];clear st21;have st22:True:=trivial)
  | (have q:=st22;clear q;go_at_call 17;refine (Sw hA.out.wk (HE.out _ hA.out.base).2).mono ?_;rw [Qv];rintro e V12 ⟨rfl,hb⟩;replace hA:=qh (hA.out.keep hb);clear hB hb;clear st22;have st23:True:=trivial)
  | (have q:=st23;clear q;go_at_call 17;refine (DN 0 0 0 0 0 0 none none none none none 0 0 0 0 0 [] [] [] [] [] _ (HE.out _ hA.out.base).2 IsRow.nil IsRow.nil IsRow.nil IsRow.nil IsRow.nil).mono ?_;rw [Sn];rintro e V13 ⟨rfl,hb⟩;replace hA:=qh (hA.out.keep hb);clear hb;clear st23;have st24:True:=trivial))
 go_ret;exact ⟨rfl,hA.out.base⟩
end
end Go.Proofs.YtbkemlgfdklpfaaGreatDoor
