/- Contracts and plain laws on the way to the statement: part 27. -/
import Derived.Test.YtbkemlgfdklpfaaGreatDoorV26
import Derived.Test.YtbkemlgfdklpfaaGreatDoorV4
set_option linter.unusedVariables false
set_option linter.unusedSimpArgs false
set_option maxRecDepth 100000
set_option maxHeartbeats 16000000
namespace Go.Proofs.YtbkemlgfdklpfaaGreatDoor
open Go.Value (int)
open Go.IntKind (i64)
section
open Go Go.RowKit Go.Deep
theorem JH{kvs:List (Int×Value)}{k:Int}(h:Au kvs k=none)(v:Value):Au (Bn kvs k v) k=some v:=by
 unfold Bn;rw [h];simp only [Option.isSome_none,Bool.false_eq_true,if_false];unfold Au at h ⊢;rw [Option.map_eq_none_iff] at h;rw [List.find?_append,h];simp
theorem JI{kvs:List (Int×Value)}{k j:Int}{x:Value}(h:Au kvs k=some x)(hA:j≠k)(v:Value):Au (Bn kvs j v) k=some x:=by
 unfold Bn
 split
 ·unfold Au at h ⊢
  rw [List.find?_map]
  have e:((λp=>decide (p.1=k)) ∘ λp=>if p.1=j then (p.1,v) else p)=λp:Int×Value=>decide (p.1=k):=by
   funext p;simp only [Function.comp];split<;>rfl
  rw [e]
  cases hf:kvs.find? (λp=>decide (p.1=k)) with
  | none=>rw [hf] at h;cases h
  | some p =>
   rw [hf] at h;have hp:=List.find?_some hf;have hB:p.1=k:=by simpa using hp
   simp only [Option.map_some,Option.some.injEq] at h ⊢;rw [if_neg (by rw [hB];exact λe=>hA e.symm)];exact h
 ·unfold Au at h ⊢
  rw [List.find?_append]
  cases hf:kvs.find? (λp=>decide (p.1=k)) with
  | none=>rw [hf] at h;cases h
  | some p=>rw [hf] at h;simpa using h
theorem Gw{kvs:List (Int×Value)}{k j:Int}(h:Au kvs k=none)(hA:j≠k)(v:Value):Au (Bn kvs j v) k=none:=by
 unfold Bn;unfold Au at h;rw [Option.map_eq_none_iff,List.find?_eq_none] at h
 split
 ·unfold Au
  rw [Option.map_eq_none_iff,List.find?_eq_none];intro p hp;obtain ⟨q,hq,rfl⟩:=List.mem_map.1 hp;have:=h q hq
  split<;>exact this
 ·unfold Au
  rw [Option.map_eq_none_iff,List.find?_eq_none];intro p hp;rcases List.mem_append.1 hp with hp|hp
  ·exact h p hp
  ·rw [List.mem_singleton.1 hp];simpa using hA
def R4S(B1:Nat)(ra fa:Option Addr)(rc fc nr np:Nat)(W:World):Prop:=W.cell? ⟨B1,6,none⟩=some (.slice ra nr rc)∧W.cell? ⟨B1,10,none⟩=some (.slice fa np fc)
structure R4G(B1 X E:Nat)(ra fa:Option Addr)(rc fc:Nat)(rs:List Rol)(ps:List Ph)(ds:List Deferred)(Wb:World)(Q:Exit→Act→World→Prop):Prop where
 s:∀{W},Below Wb.heap.size Wb W→R4S B1 ra fa rc fc rs.length ps.length W
 t41:∀W,Below Wb.heap.size Wb W→Calls Tryz.prog 122 #[.slice ra rs.length rc,.func (.func 123) #[] #[]] W (Kg (rs.map Rol.name) W)
 t43:∀W,Below Wb.heap.size Wb W→Calls Tryz.prog 124 #[.slice fa ps.length fc,.func (.func 125) #[] #[]] W (Kg (ps.map Ph.name) W)
 err:∀(t:Array Value) (d:List Deferred) W,Below Wb.heap.size Wb W→((rs.map Rol.name).all AG=false∨(ps.map Ph.name).all AG=false)→t.getD 2 undef=.pointer (some ⟨X,0,none⟩)→t.getD 3 undef=.pointer (some ⟨E,0,none⟩)→d=ds→Q (.panic (Aw 170)) { tmps:=t,defers:=d } W
 q:∀W,Below Wb.heap.size Wb W→∀(MT mR mP TB:Nat) (kvs:List (Int×Value)),Wb.heap.size≤MT→Wb.heap.size≤mR→Wb.heap.size≤mP→Wb.heap.size≤TB→MapAt kI W MT kvs→Au kvs 1=some (.map (some mR))→Au kvs 2=some (.map (some mP))→MapAt sv W mR (BB (rs.map Rol.name))→MapAt sv W mP (BB (ps.map Ph.name))→(rs.map Rol.name).all AG=true→(ps.map Ph.name).all AG=true→W.heap[TB]?=some (.cells #[.map (some MT)] 190 (0,0)) →
  ∀(e0 e5 e6 e7 e8 e9 ea eb ec ed ee ef eg eh ei ej ek el em en eo ep eq er es et eu ev ew ex ey ez eA eB eC eD eE eF eG eH eI eJ eK eL eM eN eO eP eQ eR eS eT eU eV eW eX eY eZ aa ab ac ae af ag ah ai aj ak al am an ao ap aq ar au av aw ax ay az aA aB aC aD aE aF:Value),Q .normal { tmps:=#[e0,.pointer (some ⟨B1,0,none⟩),.pointer (some ⟨X,0,none⟩),.pointer (some ⟨E,0,none⟩),.pointer (some ⟨TB,0,none⟩),e5,e6,e7,e8,e9,ea,eb,ec,ed,ee,ef,eg,.map (some MT),.pointer (some ⟨B1,6,none⟩),.slice ra rs.length rc,.map (some mR),.pointer (some ⟨B1,10,none⟩),.slice fa ps.length fc,.map (some mP),.map (some MT),eh,ei,ej,ek,el,em,en,eo,ep,eq,er,es,et,eu,ev,ew,ex,ey,ez,eA,eB,eC,eD,eE,eF,eG,eH,eI,eJ,eK,eL,eM,eN,eO,eP,eQ,eR,eS,eT,eU,eV,eW,eX,eY,eZ,aa,ab,ac,ae,af,ag,ah,ai,aj,ak,al,am,an,ao,ap,aq,ar,au,av,aw,ax,ay,az,aA,aB,aC,aD,aE,aF],defers:=ds } W
noncomputable def Ap:Array Oper:=match Ab 4 Am with
 | .seq (.region _ ops _) _=>ops
 | _=>#[]
noncomputable def r4f(B1 X E:Nat)(ra fa:Option Addr)(rc fc nr np:Nat)(v4 v17 v20 v23 v24:Value)(e:Nat→Value):Array Value:=#[e 0,.pointer (some ⟨B1,0,none⟩),.pointer (some ⟨X,0,none⟩),.pointer (some ⟨E,0,none⟩),v4,e 5,e 6,e 7,e 8,e 9,e 10,e 11,e 12,e 13,e 14,e 15,e 16,v17,.pointer (some ⟨B1,6,none⟩),.slice ra nr rc,v20,.pointer (some ⟨B1,10,none⟩),.slice fa np fc,v23,v24,e 25,e 26,e 27,e 28,e 29,e 30,e 31,e 32,e 33,e 34,e 35,e 36,e 37,e 38,e 39,e 40,e 41,e 42,e 43,e 44,e 45,e 46,e 47,e 48,e 49,e 50,e 51,e 52,e 53,e 54,e 55,e 56,e 57,e 58,e 59,e 60,e 61,e 62,e 63,e 64,e 65,e 66,e 67,e 68,e 69,e 70,e 71,e 72,e 73,e 74,e 75,e 76,e 77,e 78,e 79,e 80,e 81,e 82,e 83,e 84,e 85,e 86,e 87,e 88,e 89,e 90,e 91,e 92,e 93,e 94,e 95,e 96,e 97,e 98]
structure RS(d0 d3 d4 d7 d8 d10:Bool)(rs:List Rol)(ps:List Ph)(Wb W:World)(MT:Nat)(kvs:List (Int×Value))(mR mP TB:Nat):Prop where
 hb:Below Wb.heap.size Wb W
 m:d0=true→Wb.heap.size≤MT∧MapAt kI W MT kvs∧AT kvs∧Au kvs 1=(if d4 then some (.map (some mR)) else none)∧Au kvs 2=(if d8 then some (.map (some mP)) else none)
 r:d3=true→Wb.heap.size≤mR∧MapAt sv W mR (BB (rs.map Rol.name))∧(rs.map Rol.name).all AG=true
 p:d7=true→Wb.heap.size≤mP∧MapAt sv W mP (BB (ps.map Ph.name))∧(ps.map Ph.name).all AG=true
 nr:d0=true→d3=true→MT≠mR
 np:d0=true→d7=true→MT≠mP
 t:d10=true→Wb.heap.size≤TB∧W.heap[TB]?=some (.cells #[.map none] 190 (0,0))
section
variable {d0 d3 d4 d7 d8 d10:Bool} {rs:List Rol} {ps:List Ph} {Wb W W2:World} {MT mR mP TB mN:Nat} {kvs:List (Int×Value)}
theorem RS.keep(h:RS d0 d3 d4 d7 d8 d10 rs ps Wb W MT kvs mR mP TB)(bW:Below W.heap.size W W2):RS d0 d3 d4 d7 d8 d10 rs ps Wb W2 MT kvs mR mP TB :=
 ⟨h.hb.trans (bW.mono h.hb.size),λq=>let x:=h.m q;⟨x.1,x.2.1.below bW x.2.1.lt,x.2.2⟩,λq=>let x:=h.r q;⟨x.1,x.2.1.below bW x.2.1.lt,x.2.2⟩,λq=>let x:=h.p q;⟨x.1,x.2.1.below bW x.2.1.lt,x.2.2⟩,h.nr,h.np,λq=>let x:=h.t q;⟨x.1,(bW.block _ (qs.1 x.2).1).trans x.2⟩⟩
theorem RS.mk0(h:RS false d3 d4 d7 d8 d10 rs ps Wb W MT kvs mR mP TB):RS true d3 false d7 false d10 rs ps Wb (W.alloc (.map #[] 0)) W.heap.size [] mR mP TB :=
 let x:=h.keep ((Below.refl W.heap.size W).alloc (qn _) (.map #[] 0))
 ⟨x.hb,λ_=>⟨h.hb.size,MapAt.new W,List.nodup_nil,rfl,rfl⟩,x.r,x.p,λ_ q=>(by have:=(h.r q).2.1.lt;omega),λ_ q=>(by have:=(h.p q).2.1.lt;omega),x.t⟩
theorem RS.mk10(h:RS d0 d3 d4 d7 d8 false rs ps Wb W MT kvs mR mP TB):RS d0 d3 d4 d7 d8 true rs ps Wb (W.alloc (.cells #[.map none] 190)) MT kvs mR mP W.heap.size :=
 let x:=h.keep ((Below.refl W.heap.size W).alloc (qn _) (.cells #[.map none] 190))
 ⟨x.hb,x.m,x.r,x.p,x.nr,x.np,λ_=>⟨h.hb.size,heap_alloc_new W _⟩⟩
theorem RS.mk3(h:RS d0 false false d7 d8 d10 rs ps Wb W MT kvs mR mP TB)(bW:Below W.heap.size W W2)(g:W.heap.size≤mN)(hN:MapAt sv W2 mN (BB (rs.map Rol.name)))(k:(rs.map Rol.name).all AG=true):RS d0 true false d7 d8 d10 rs ps Wb W2 MT kvs mN mP TB :=
 let x:=h.keep bW
 ⟨x.hb,x.m,λ_=>⟨Nat.le_trans h.hb.size g,hN,k⟩,x.p,λq _=>(by have:=(h.m q).2.1.lt;omega),x.np,x.t⟩
theorem RS.mk7(h:RS d0 d3 d4 false false d10 rs ps Wb W MT kvs mR mP TB)(bW:Below W.heap.size W W2)(g:W.heap.size≤mN)(hN:MapAt sv W2 mN (BB (ps.map Ph.name)))(k:(ps.map Ph.name).all AG=true):RS d0 d3 d4 true false d10 rs ps Wb W2 MT kvs mR mN TB :=
 let x:=h.keep bW
 ⟨x.hb,x.m,x.r,λ_=>⟨Nat.le_trans h.hb.size g,hN,k⟩,x.nr,λq _=>(by have:=(h.m q).2.1.lt;omega),x.t⟩
theorem RS.up(h:RS true d3 d4 d7 d8 d10 rs ps Wb W MT kvs mR mP TB)(k:Int)(v:Value):∃ob,(Instr.mapUpdate 190 (.map (some MT)) (int i64 k) v).run Tryz.prog W=.ok () { W with heap:=W.heap.setIfInBounds MT ob }∧Below Wb.heap.size Wb { W with heap:=W.heap.setIfInBounds MT ob }∧(MapAt kI { W with heap:=W.heap.setIfInBounds MT ob } MT (Bn kvs k v)∧AT (Bn kvs k v))∧(d3=true→MapAt sv { W with heap:=W.heap.setIfInBounds MT ob } mR (BB (rs.map Rol.name)))∧(d7=true→MapAt sv { W with heap:=W.heap.setIfInBounds MT ob } mP (BB (ps.map Ph.name)))∧(d10=true→({ W with heap:=W.heap.setIfInBounds MT ob }:World).heap[TB]?=some (.cells #[.map none] 190 (0,0))):=by
 obtain ⟨gMT,hM,hA,_⟩:=h.m rfl;obtain ⟨ob,hB,hC⟩:=Bj (P:=Tryz.prog) (T:=190) Bz Tryz.underlying190 Tryz.underlying185 hM hA k v;have oW:∀b,b≠MT→({ W with heap:=W.heap.setIfInBounds MT ob }:World).heap[b]?=W.heap[b]?:=λb h=>by show (W.heap.setIfInBounds MT ob)[b]?=_;exact Array.getElem?_setIfInBounds_ne (λe=>h e.symm)
 exact ⟨ob,hB,h.hb.trans (Bo W MT ob gMT),⟨hC,BP hA _ _⟩,λq=>(h.r q).2.1.of_block (oW mR (λe=>h.nr rfl q e.symm)),λq=>(h.p q).2.1.of_block (oW mP (λe=>h.np rfl q e.symm)),λq=>(oW TB (λe=>by obtain ⟨es,cl,h3,_⟩:=hM;rw [← e,(h.t q).2] at h3;cases h3)).trans (h.t q).2⟩
theorem RS.up4(h:RS true true false d7 d8 d10 rs ps Wb W MT kvs mR mP TB):∃ob,(Instr.mapUpdate 190 (.map (some MT)) (int i64 1) (.map (some mR))).run Tryz.prog W=.ok () { W with heap:=W.heap.setIfInBounds MT ob }∧RS true true true d7 d8 d10 rs ps Wb { W with heap:=W.heap.setIfInBounds MT ob } MT (Bn kvs 1 (.map (some mR))) mR mP TB:=by
 obtain ⟨ob,hr,b,⟨m1,m2⟩,r,p,t⟩:=h.up 1 (.map (some mR));obtain ⟨g,_,_,z1,z2⟩:=h.m rfl;exact ⟨ob,hr,b,λ_=>⟨g,m1,m2,JH z1 _,by cases d8;exact Gw z2 (by decide) _;exact JI z2 (by decide) _⟩,λq=>⟨(h.r q).1,r q,(h.r q).2.2⟩,λq=>⟨(h.p q).1,p q,(h.p q).2.2⟩,h.nr,h.np,λq=>⟨(h.t q).1,t q⟩⟩
theorem RS.up8(h:RS true d3 d4 true false d10 rs ps Wb W MT kvs mR mP TB):∃ob,(Instr.mapUpdate 190 (.map (some MT)) (int i64 2) (.map (some mP))).run Tryz.prog W=.ok () { W with heap:=W.heap.setIfInBounds MT ob }∧RS true d3 d4 true true d10 rs ps Wb { W with heap:=W.heap.setIfInBounds MT ob } MT (Bn kvs 2 (.map (some mP))) mR mP TB:=by
 obtain ⟨ob,hr,b,⟨m1,m2⟩,r,p,t⟩:=h.up 2 (.map (some mP));obtain ⟨g,_,_,z1,z2⟩:=h.m rfl;exact ⟨ob,hr,b,λ_=>⟨g,m1,m2,by cases d4;exact Gw z1 (by decide) _;exact JI z1 (by decide) _,JH z2 _⟩,λq=>⟨(h.r q).1,r q,(h.r q).2.2⟩,λq=>⟨(h.p q).1,p q,(h.p q).2.2⟩,h.nr,h.np,λq=>⟨(h.t q).1,t q⟩⟩
variable {B1 X E:Nat} {ra fa:Option Addr} {rc fc:Nat} {ds:List Deferred} {Q:Exit→Act→World→Prop}
theorem Du(hG:R4G B1 X E ra fa rc fc rs ps ds Wb Q)(h:RS true true true true true true rs ps Wb W MT kvs mR mP TB)(e:Nat→Value) :
  wpAnyH Tryz.prog .any Ap Q (R4S B1 ra fa rc fc rs.length ps.length) 1 #[true,true,true,true,true,true,true,true,true,true,true,false] { tmps:=r4f B1 X E ra fa rc fc rs.length ps.length (.pointer (some ⟨TB,0,none⟩)) (.map (some MT)) (.map (some mR)) (.map (some mP)) (.map (some MT)) e,defers:=ds } W:=by
 unfold Ap Am r4f
 conv=>arg 3;whnf
 have hS:=hG.s h.hb;obtain ⟨gTB,hB⟩:=h.t rfl;obtain ⟨gMT,hM,hA,g1,g2⟩:=h.m rfl;obtain ⟨gR,hR,okR⟩:=h.r rfl;obtain ⟨gP,hP,okP⟩:=h.p rfl;have hb:=h.hb;obtain ⟨W2,x2,g2x,o2,b2,s2⟩:=Bp hB (.map (some MT));have cTB:W.cell? ⟨TB,0,none⟩=some (.map none):=Aa hB 0 rfl;have fTB:W.frozen? ⟨TB,0,none⟩=false:=by simp [World.frozen?,hB]
 have hC:∀{κ:Type} {f:κ→Value} {b:Nat} {l:List (κ×Value)},MapAt f W b l→MapAt f W2 b l:=λ{κ f b l} h=>h.of_block (o2 b (λe=>by obtain ⟨es,cl,h3,_⟩:=h;rw [e,hB] at h3;cases h3))
 have HQ:=qh (hG.q W2 (b2 _ _ hb gTB) MT mR mP TB kvs gMT gR gP gTB (hC hM) g1 g2 (hC hR) (hC hP) okR okP g2x);have hD:=qh (hG.s (b2 _ _ hb gTB));clear hC hM hA hR hP okR okP g1 g2 gMT gR gP g2x o2 b2 s2 hB hG h hS;refine tr 11 _ (by kernel_rfl) rfl λK hK=>?_
 go_simp;refine hK.out _ _ hD.out (λ_=>?_);clear hK K
 try (simp only [Act.put,qz])
 refine wpAnyH_done (by kernel_rfl) ?_ _;exact HQ.out _ _ _ _ _ _ _ _ _ _ _ _ _ _ _ _ _ _ _ _ _ _ _ _ _ _ _ _ _ _ _ _ _ _ _ _ _ _ _ _ _ _ _ _ _ _ _ _ _ _ _ _ _ _ _ _ _ _ _ _ _ _ _ _ _ _ _ _ _ _ _ _ _ _ _ _ _ _ _ _ _ _ _ _ _ _ _
theorem Ih(hG:R4G B1 X E ra fa rc fc rs ps ds Wb Q)(h:RS true true true true true false rs ps Wb W MT kvs mR mP TB)(v4:Value)(e:Nat→Value) :
  wpAnyH Tryz.prog .any Ap Q (R4S B1 ra fa rc fc rs.length ps.length) 2 #[true,true,true,true,true,true,true,true,true,true,false,false] { tmps:=r4f B1 X E ra fa rc fc rs.length ps.length v4 (.map (some MT)) (.map (some mR)) (.map (some mP)) (.map (some MT)) e,defers:=ds } W:=by
 unfold Ap Am r4f
 conv=>arg 3;whnf
 have hS:=hG.s h.hb;refine tr 10 _ (by kernel_rfl) rfl λK1 hK=>?_
 have HN:=qh h.mk10;clear hS h;go_simp;refine hK.out _ _ (hG.s HN.out.hb) (λ_=>?_)
 try (simp only [Act.put,qz])
 exact Du hG HN.out e
theorem D0(hG:R4G B1 X E ra fa rc fc rs ps ds Wb Q)(h:RS true true true true true true rs ps Wb W MT kvs mR mP TB)(v24:Value)(e:Nat→Value) :
  wpAnyH Tryz.prog .any Ap Q (R4S B1 ra fa rc fc rs.length ps.length) 2 #[true,true,true,true,true,true,true,true,true,false,true,false] { tmps:=r4f B1 X E ra fa rc fc rs.length ps.length (.pointer (some ⟨TB,0,none⟩)) (.map (some MT)) (.map (some mR)) (.map (some mP)) v24 e,defers:=ds } W:=by
 unfold Ap Am r4f
 conv=>arg 3;whnf
 have hS:=hG.s h.hb;refine tr 9 _ (by kernel_rfl) rfl λK1 hK=>?_
 have HN:=qh h;clear hS h;go_simp;refine hK.out _ _ (hG.s HN.out.hb) (λ_=>?_)
 try (simp only [Act.put,qz])
 exact Du hG HN.out e
theorem Fs(hG:R4G B1 X E ra fa rc fc rs ps ds Wb Q)(h:RS true true true true true false rs ps Wb W MT kvs mR mP TB)(v4 v24:Value)(e:Nat→Value) :
  wpAnyH Tryz.prog .any Ap Q (R4S B1 ra fa rc fc rs.length ps.length) 3 #[true,true,true,true,true,true,true,true,true,false,false,false] { tmps:=r4f B1 X E ra fa rc fc rs.length ps.length v4 (.map (some MT)) (.map (some mR)) (.map (some mP)) v24 e,defers:=ds } W:=by
 unfold Ap Am r4f
 conv=>arg 3;whnf
 have hS:=hG.s h.hb;refine wpAnyH_ready (rs:=[9,10]) (by kernel_rfl) (by simp) ?_;refine AllReadyH.cons (o:=_) rfl (λK1 hK=>?_) (AllReadyH.cons (o:=_) rfl (λK2 hK=>?_) AllReadyH.nil)
 ·have HN:=qh h
  clear hS h;go_simp;refine hK.out _ _ (hG.s HN.out.hb) (λ_=>?_)
  try (simp only [Act.put,qz])
  exact Ih hG HN.out _ e
 ·have HN:=qh h.mk10
  clear hS h;go_simp;refine hK.out _ _ (hG.s HN.out.hb) (λ_=>?_)
  try (simp only [Act.put,qz])
  exact D0 hG HN.out _ e
theorem Dx(hG:R4G B1 X E ra fa rc fc rs ps ds Wb Q)(h:RS true true true true false true rs ps Wb W MT kvs mR mP TB)(v24:Value)(e:Nat→Value) :
  wpAnyH Tryz.prog .any Ap Q (R4S B1 ra fa rc fc rs.length ps.length) 3 #[true,true,true,true,true,true,true,true,false,false,true,false] { tmps:=r4f B1 X E ra fa rc fc rs.length ps.length (.pointer (some ⟨TB,0,none⟩)) (.map (some MT)) (.map (some mR)) (.map (some mP)) v24 e,defers:=ds } W:=by
 unfold Ap Am r4f
 conv=>arg 3;whnf
 have hS:=hG.s h.hb;refine tr 8 _ (by kernel_rfl) rfl λK1 hK=>?_
 obtain ⟨ob,hA,h2⟩:=h.up8;have HN:=qh h2;clear h2;clear hS h;go_simp;refine hK.out _ _ (hG.s HN.out.hb) (λ_=>?_)
 try (simp only [Act.put,qz])
 exact D0 hG HN.out _ e
theorem EI(hG:R4G B1 X E ra fa rc fc rs ps ds Wb Q)(h:RS true true false true true true rs ps Wb W MT kvs mR mP TB)(v24:Value)(e:Nat→Value) :
  wpAnyH Tryz.prog .any Ap Q (R4S B1 ra fa rc fc rs.length ps.length) 3 #[true,true,true,true,false,true,true,true,true,false,true,false] { tmps:=r4f B1 X E ra fa rc fc rs.length ps.length (.pointer (some ⟨TB,0,none⟩)) (.map (some MT)) (.map (some mR)) (.map (some mP)) v24 e,defers:=ds } W:=by
 unfold Ap Am r4f
 conv=>arg 3;whnf
 have hS:=hG.s h.hb;refine tr 4 _ (by kernel_rfl) rfl λK1 hK=>?_
 obtain ⟨ob,hA,h2⟩:=h.up4;have HN:=qh h2;clear h2;clear hS h;go_simp;refine hK.out _ _ (hG.s HN.out.hb) (λ_=>?_)
 try (simp only [Act.put,qz])
 exact D0 hG HN.out _ e
theorem Ig(hG:R4G B1 X E ra fa rc fc rs ps ds Wb Q)(h:RS true true true true false false rs ps Wb W MT kvs mR mP TB)(v4 v24:Value)(e:Nat→Value) :
  wpAnyH Tryz.prog .any Ap Q (R4S B1 ra fa rc fc rs.length ps.length) 4 #[true,true,true,true,true,true,true,true,false,false,false,false] { tmps:=r4f B1 X E ra fa rc fc rs.length ps.length v4 (.map (some MT)) (.map (some mR)) (.map (some mP)) v24 e,defers:=ds } W:=by
 unfold Ap Am r4f
 conv=>arg 3;whnf
 have hS:=hG.s h.hb;refine wpAnyH_ready (rs:=[8,10]) (by kernel_rfl) (by simp) ?_;refine AllReadyH.cons (o:=_) rfl (λK1 hK=>?_) (AllReadyH.cons (o:=_) rfl (λK2 hK=>?_) AllReadyH.nil)
 ·obtain ⟨ob,hA,h2⟩:=h.up8
  have HN:=qh h2;clear h2;clear hS h;go_simp;refine hK.out _ _ (hG.s HN.out.hb) (λ_=>?_)
  try (simp only [Act.put,qz])
  exact Fs hG HN.out _ _ e
 ·have HN:=qh h.mk10
  clear hS h;go_simp;refine hK.out _ _ (hG.s HN.out.hb) (λ_=>?_)
  try (simp only [Act.put,qz])
  exact Dx hG HN.out _ e
theorem Ge(hG:R4G B1 X E ra fa rc fc rs ps ds Wb Q)(h:RS true true true false false true rs ps Wb W MT kvs mR mP TB)(v23 v24:Value)(e:Nat→Value) :
  wpAnyH Tryz.prog .any Ap Q (R4S B1 ra fa rc fc rs.length ps.length) 4 #[true,true,true,true,true,true,true,false,false,false,true,false] { tmps:=r4f B1 X E ra fa rc fc rs.length ps.length (.pointer (some ⟨TB,0,none⟩)) (.map (some MT)) (.map (some mR)) v23 v24 e,defers:=ds } W:=by
 unfold Ap Am r4f
 conv=>arg 3;whnf
 have hS:=hG.s h.hb;refine tr 7 _ (by kernel_rfl) rfl λK1 hK=>?_
 have HT:=qh (hG.t43 W h.hb);clear hS;go_simp;go_at_call 124;refine HT.out.mono ?_;rintro e2 W2 ⟨(⟨okN,mN,gN,rfl,hN⟩|⟨bad,rfl⟩),bW⟩
 ·have HN:=qh (h.mk7 bW gN hN okN)
  refine hK.out _ _ (hG.s HN.out.hb) (λ_=>?_)
  try (simp only [Act.put,qz])
  exact Dx hG HN.out _ e
 ·exact hG.err _ _ W2 (h.hb.trans (bW.mono h.hb.size)) (Or.inr bad) rfl rfl rfl
theorem M9(hG:R4G B1 X E ra fa rc fc rs ps ds Wb Q)(h:RS true true false true true false rs ps Wb W MT kvs mR mP TB)(v4 v24:Value)(e:Nat→Value) :
  wpAnyH Tryz.prog .any Ap Q (R4S B1 ra fa rc fc rs.length ps.length) 4 #[true,true,true,true,false,true,true,true,true,false,false,false] { tmps:=r4f B1 X E ra fa rc fc rs.length ps.length v4 (.map (some MT)) (.map (some mR)) (.map (some mP)) v24 e,defers:=ds } W:=by
 unfold Ap Am r4f
 conv=>arg 3;whnf
 have hS:=hG.s h.hb;refine wpAnyH_ready (rs:=[4,10]) (by kernel_rfl) (by simp) ?_;refine AllReadyH.cons (o:=_) rfl (λK1 hK=>?_) (AllReadyH.cons (o:=_) rfl (λK2 hK=>?_) AllReadyH.nil)
 ·obtain ⟨ob,hA,h2⟩:=h.up4
  have HN:=qh h2;clear h2;clear hS h;go_simp;refine hK.out _ _ (hG.s HN.out.hb) (λ_=>?_)
  try (simp only [Act.put,qz])
  exact Fs hG HN.out _ _ e
 ·have HN:=qh h.mk10
  clear hS h;go_simp;refine hK.out _ _ (hG.s HN.out.hb) (λ_=>?_)
  try (simp only [Act.put,qz])
  exact EI hG HN.out _ e
theorem Ee(hG:R4G B1 X E ra fa rc fc rs ps ds Wb Q)(h:RS true true false true false true rs ps Wb W MT kvs mR mP TB)(v24:Value)(e:Nat→Value) :
  wpAnyH Tryz.prog .any Ap Q (R4S B1 ra fa rc fc rs.length ps.length) 4 #[true,true,true,true,false,true,true,true,false,false,true,false] { tmps:=r4f B1 X E ra fa rc fc rs.length ps.length (.pointer (some ⟨TB,0,none⟩)) (.map (some MT)) (.map (some mR)) (.map (some mP)) v24 e,defers:=ds } W:=by
 unfold Ap Am r4f
 conv=>arg 3;whnf
 have hS:=hG.s h.hb;refine wpAnyH_ready (rs:=[4,8]) (by kernel_rfl) (by simp) ?_;refine AllReadyH.cons (o:=_) rfl (λK1 hK=>?_) (AllReadyH.cons (o:=_) rfl (λK2 hK=>?_) AllReadyH.nil)
 ·obtain ⟨ob,hA,h2⟩:=h.up4
  have HN:=qh h2;clear h2;clear hS h;go_simp;refine hK.out _ _ (hG.s HN.out.hb) (λ_=>?_)
  try (simp only [Act.put,qz])
  exact Dx hG HN.out _ e
 ·obtain ⟨ob,hA,h2⟩:=h.up8
  have HN:=qh h2;clear h2;clear hS h;go_simp;refine hK.out _ _ (hG.s HN.out.hb) (λ_=>?_)
  try (simp only [Act.put,qz])
  exact EI hG HN.out _ e
theorem PS(hG:R4G B1 X E ra fa rc fc rs ps ds Wb Q)(h:RS true true true false false false rs ps Wb W MT kvs mR mP TB)(v4 v23 v24:Value)(e:Nat→Value) :
  wpAnyH Tryz.prog .any Ap Q (R4S B1 ra fa rc fc rs.length ps.length) 5 #[true,true,true,true,true,true,true,false,false,false,false,false] { tmps:=r4f B1 X E ra fa rc fc rs.length ps.length v4 (.map (some MT)) (.map (some mR)) v23 v24 e,defers:=ds } W:=by
 unfold Ap Am r4f
 conv=>arg 3;whnf
 have hS:=hG.s h.hb;refine wpAnyH_ready (rs:=[7,10]) (by kernel_rfl) (by simp) ?_;refine AllReadyH.cons (o:=_) rfl (λK1 hK=>?_) (AllReadyH.cons (o:=_) rfl (λK2 hK=>?_) AllReadyH.nil)
 ·have HT:=qh (hG.t43 W h.hb)
  clear hS;go_simp;go_at_call 124;refine HT.out.mono ?_;rintro e2 W2 ⟨(⟨okN,mN,gN,rfl,hN⟩|⟨bad,rfl⟩),bW⟩
  ·have HN:=qh (h.mk7 bW gN hN okN)
   refine hK.out _ _ (hG.s HN.out.hb) (λ_=>?_)
   try (simp only [Act.put,qz])
   exact Ig hG HN.out _ _ e
  ·exact hG.err _ _ W2 (h.hb.trans (bW.mono h.hb.size)) (Or.inr bad) rfl rfl rfl
 ·have HN:=qh h.mk10
  clear hS h;go_simp;refine hK.out _ _ (hG.s HN.out.hb) (λ_=>?_)
  try (simp only [Act.put,qz])
  exact Ge hG HN.out _ _ e
theorem KR(hG:R4G B1 X E ra fa rc fc rs ps ds Wb Q)(h:RS true true false true false false rs ps Wb W MT kvs mR mP TB)(v4 v24:Value)(e:Nat→Value) :
  wpAnyH Tryz.prog .any Ap Q (R4S B1 ra fa rc fc rs.length ps.length) 5 #[true,true,true,true,false,true,true,true,false,false,false,false] { tmps:=r4f B1 X E ra fa rc fc rs.length ps.length v4 (.map (some MT)) (.map (some mR)) (.map (some mP)) v24 e,defers:=ds } W:=by
 unfold Ap Am r4f
 conv=>arg 3;whnf
 have hS:=hG.s h.hb;refine wpAnyH_ready (rs:=[4,8,10]) (by kernel_rfl) (by simp) ?_;refine AllReadyH.cons (o:=_) rfl (λK1 hK=>?_) (AllReadyH.cons (o:=_) rfl (λK2 hK=>?_) (AllReadyH.cons (o:=_) rfl (λK3 hK=>?_) AllReadyH.nil))
 ·obtain ⟨ob,hA,h2⟩:=h.up4
  have HN:=qh h2;clear h2;clear hS h;go_simp;refine hK.out _ _ (hG.s HN.out.hb) (λ_=>?_)
  try (simp only [Act.put,qz])
  exact Ig hG HN.out _ _ e
 ·obtain ⟨ob,hA,h2⟩:=h.up8
  have HN:=qh h2;clear h2;clear hS h;go_simp;refine hK.out _ _ (hG.s HN.out.hb) (λ_=>?_)
  try (simp only [Act.put,qz])
  exact M9 hG HN.out _ _ e
 ·have HN:=qh h.mk10
  clear hS h;go_simp;refine hK.out _ _ (hG.s HN.out.hb) (λ_=>?_)
  try (simp only [Act.put,qz])
  exact Ee hG HN.out _ e
theorem FK(hG:R4G B1 X E ra fa rc fc rs ps ds Wb Q)(h:RS true true false false false true rs ps Wb W MT kvs mR mP TB)(v23 v24:Value)(e:Nat→Value) :
  wpAnyH Tryz.prog .any Ap Q (R4S B1 ra fa rc fc rs.length ps.length) 5 #[true,true,true,true,false,true,true,false,false,false,true,false] { tmps:=r4f B1 X E ra fa rc fc rs.length ps.length (.pointer (some ⟨TB,0,none⟩)) (.map (some MT)) (.map (some mR)) v23 v24 e,defers:=ds } W:=by
 unfold Ap Am r4f
 conv=>arg 3;whnf
 have hS:=hG.s h.hb;refine wpAnyH_ready (rs:=[4,7]) (by kernel_rfl) (by simp) ?_;refine AllReadyH.cons (o:=_) rfl (λK1 hK=>?_) (AllReadyH.cons (o:=_) rfl (λK2 hK=>?_) AllReadyH.nil)
 ·obtain ⟨ob,hA,h2⟩:=h.up4
  have HN:=qh h2;clear h2;clear hS h;go_simp;refine hK.out _ _ (hG.s HN.out.hb) (λ_=>?_)
  try (simp only [Act.put,qz])
  exact Ge hG HN.out _ _ e
 ·have HT:=qh (hG.t43 W h.hb)
  clear hS;go_simp;go_at_call 124;refine HT.out.mono ?_;rintro e2 W2 ⟨(⟨okN,mN,gN,rfl,hN⟩|⟨bad,rfl⟩),bW⟩
  ·have HN:=qh (h.mk7 bW gN hN okN)
   refine hK.out _ _ (hG.s HN.out.hb) (λ_=>?_)
   try (simp only [Act.put,qz])
   exact Ee hG HN.out _ e
  ·exact hG.err _ _ W2 (h.hb.trans (bW.mono h.hb.size)) (Or.inr bad) rfl rfl rfl
theorem J4(hG:R4G B1 X E ra fa rc fc rs ps ds Wb Q)(h:RS false true false true false true rs ps Wb W MT kvs mR mP TB)(v17 v24:Value)(e:Nat→Value) :
  wpAnyH Tryz.prog .any Ap Q (R4S B1 ra fa rc fc rs.length ps.length) 5 #[false,true,true,true,false,true,true,true,false,false,true,false] { tmps:=r4f B1 X E ra fa rc fc rs.length ps.length (.pointer (some ⟨TB,0,none⟩)) v17 (.map (some mR)) (.map (some mP)) v24 e,defers:=ds } W:=by
 unfold Ap Am r4f
 conv=>arg 3;whnf
 have hS:=hG.s h.hb;refine tr 0 _ (by kernel_rfl) rfl λK1 hK=>?_
 have hA:=@run_makeMap Tryz.prog;have HN:=qh h.mk0;clear hS h;go_simp;refine hK.out _ _ (hG.s HN.out.hb) (λ_=>?_)
 try (simp only [Act.put,qz])
 exact Ee hG HN.out _ e
theorem PR(hG:R4G B1 X E ra fa rc fc rs ps ds Wb Q)(h:RS true true false false false false rs ps Wb W MT kvs mR mP TB)(v4 v23 v24:Value)(e:Nat→Value) :
  wpAnyH Tryz.prog .any Ap Q (R4S B1 ra fa rc fc rs.length ps.length) 6 #[true,true,true,true,false,true,true,false,false,false,false,false] { tmps:=r4f B1 X E ra fa rc fc rs.length ps.length v4 (.map (some MT)) (.map (some mR)) v23 v24 e,defers:=ds } W:=by
 unfold Ap Am r4f
 conv=>arg 3;whnf
 have hS:=hG.s h.hb;refine wpAnyH_ready (rs:=[4,7,10]) (by kernel_rfl) (by simp) ?_;refine AllReadyH.cons (o:=_) rfl (λK1 hK=>?_) (AllReadyH.cons (o:=_) rfl (λK2 hK=>?_) (AllReadyH.cons (o:=_) rfl (λK3 hK=>?_) AllReadyH.nil))
 ·obtain ⟨ob,hA,h2⟩:=h.up4
  have HN:=qh h2;clear h2;clear hS h;go_simp;refine hK.out _ _ (hG.s HN.out.hb) (λ_=>?_)
  try (simp only [Act.put,qz])
  exact PS hG HN.out _ _ _ e
 ·have HT:=qh (hG.t43 W h.hb)
  clear hS;go_simp;go_at_call 124;refine HT.out.mono ?_;rintro e2 W2 ⟨(⟨okN,mN,gN,rfl,hN⟩|⟨bad,rfl⟩),bW⟩
  ·have HN:=qh (h.mk7 bW gN hN okN)
   refine hK.out _ _ (hG.s HN.out.hb) (λ_=>?_)
   try (simp only [Act.put,qz])
   exact KR hG HN.out _ _ e
  ·exact hG.err _ _ W2 (h.hb.trans (bW.mono h.hb.size)) (Or.inr bad) rfl rfl rfl
 ·have HN:=qh h.mk10
  clear hS h;go_simp;refine hK.out _ _ (hG.s HN.out.hb) (λ_=>?_)
  try (simp only [Act.put,qz])
  exact FK hG HN.out _ _ e
theorem MU(hG:R4G B1 X E ra fa rc fc rs ps ds Wb Q)(h:RS true false false false false true rs ps Wb W MT kvs mR mP TB)(v20 v23 v24:Value)(e:Nat→Value) :
  wpAnyH Tryz.prog .any Ap Q (R4S B1 ra fa rc fc rs.length ps.length) 6 #[true,true,true,false,false,true,true,false,false,false,true,false] { tmps:=r4f B1 X E ra fa rc fc rs.length ps.length (.pointer (some ⟨TB,0,none⟩)) (.map (some MT)) v20 v23 v24 e,defers:=ds } W:=by
 unfold Ap Am r4f
 conv=>arg 3;whnf
 have hS:=hG.s h.hb;refine tr 3 _ (by kernel_rfl) rfl λK1 hK=>?_
 have HT:=qh (hG.t41 W h.hb);clear hS;go_simp;go_at_call 122;refine HT.out.mono ?_;rintro e2 W2 ⟨(⟨okN,mN,gN,rfl,hN⟩|⟨bad,rfl⟩),bW⟩
 ·have HN:=qh (h.mk3 bW gN hN okN)
  refine hK.out _ _ (hG.s HN.out.hb) (λ_=>?_)
  try (simp only [Act.put,qz])
  exact FK hG HN.out _ _ e
 ·exact hG.err _ _ W2 (h.hb.trans (bW.mono h.hb.size)) (Or.inl bad) rfl rfl rfl
theorem Tw(hG:R4G B1 X E ra fa rc fc rs ps ds Wb Q)(h:RS false true false true false false rs ps Wb W MT kvs mR mP TB)(v4 v17 v24:Value)(e:Nat→Value) :
  wpAnyH Tryz.prog .any Ap Q (R4S B1 ra fa rc fc rs.length ps.length) 6 #[false,true,true,true,false,true,true,true,false,false,false,false] { tmps:=r4f B1 X E ra fa rc fc rs.length ps.length v4 v17 (.map (some mR)) (.map (some mP)) v24 e,defers:=ds } W:=by
 unfold Ap Am r4f
 conv=>arg 3;whnf
 have hS:=hG.s h.hb;refine wpAnyH_ready (rs:=[0,10]) (by kernel_rfl) (by simp) ?_;refine AllReadyH.cons (o:=_) rfl (λK1 hK=>?_) (AllReadyH.cons (o:=_) rfl (λK2 hK=>?_) AllReadyH.nil)
 ·have hA:=@run_makeMap Tryz.prog
  have HN:=qh h.mk0;clear hS h;go_simp;refine hK.out _ _ (hG.s HN.out.hb) (λ_=>?_)
  try (simp only [Act.put,qz])
  exact KR hG HN.out _ _ e
 ·have HN:=qh h.mk10
  clear hS h;go_simp;refine hK.out _ _ (hG.s HN.out.hb) (λ_=>?_)
  try (simp only [Act.put,qz])
  exact J4 hG HN.out _ _ e
theorem MV(hG:R4G B1 X E ra fa rc fc rs ps ds Wb Q)(h:RS false true false false false true rs ps Wb W MT kvs mR mP TB)(v17 v23 v24:Value)(e:Nat→Value) :
  wpAnyH Tryz.prog .any Ap Q (R4S B1 ra fa rc fc rs.length ps.length) 6 #[false,true,true,true,false,true,true,false,false,false,true,false] { tmps:=r4f B1 X E ra fa rc fc rs.length ps.length (.pointer (some ⟨TB,0,none⟩)) v17 (.map (some mR)) v23 v24 e,defers:=ds } W:=by
 unfold Ap Am r4f
 conv=>arg 3;whnf
 have hS:=hG.s h.hb;refine wpAnyH_ready (rs:=[0,7]) (by kernel_rfl) (by simp) ?_;refine AllReadyH.cons (o:=_) rfl (λK1 hK=>?_) (AllReadyH.cons (o:=_) rfl (λK2 hK=>?_) AllReadyH.nil)
 ·have hA:=@run_makeMap Tryz.prog
  have HN:=qh h.mk0;clear hS h;go_simp;refine hK.out _ _ (hG.s HN.out.hb) (λ_=>?_)
  try (simp only [Act.put,qz])
  exact FK hG HN.out _ _ e
 ·have HT:=qh (hG.t43 W h.hb)
  clear hS;go_simp;go_at_call 124;refine HT.out.mono ?_;rintro e2 W2 ⟨(⟨okN,mN,gN,rfl,hN⟩|⟨bad,rfl⟩),bW⟩
  ·have HN:=qh (h.mk7 bW gN hN okN)
   refine hK.out _ _ (hG.s HN.out.hb) (λ_=>?_)
   try (simp only [Act.put,qz])
   exact J4 hG HN.out _ _ e
  ·exact hG.err _ _ W2 (h.hb.trans (bW.mono h.hb.size)) (Or.inr bad) rfl rfl rfl
theorem Vp(hG:R4G B1 X E ra fa rc fc rs ps ds Wb Q)(h:RS true false false false false false rs ps Wb W MT kvs mR mP TB)(v4 v20 v23 v24:Value)(e:Nat→Value) :
  wpAnyH Tryz.prog .any Ap Q (R4S B1 ra fa rc fc rs.length ps.length) 7 #[true,true,true,false,false,true,true,false,false,false,false,false] { tmps:=r4f B1 X E ra fa rc fc rs.length ps.length v4 (.map (some MT)) v20 v23 v24 e,defers:=ds } W:=by
 unfold Ap Am r4f
 conv=>arg 3;whnf
 have hS:=hG.s h.hb;refine wpAnyH_ready (rs:=[3,10]) (by kernel_rfl) (by simp) ?_;refine AllReadyH.cons (o:=_) rfl (λK1 hK=>?_) (AllReadyH.cons (o:=_) rfl (λK2 hK=>?_) AllReadyH.nil)
 ·have HT:=qh (hG.t41 W h.hb)
  clear hS;go_simp;go_at_call 122;refine HT.out.mono ?_;rintro e2 W2 ⟨(⟨okN,mN,gN,rfl,hN⟩|⟨bad,rfl⟩),bW⟩
  ·have HN:=qh (h.mk3 bW gN hN okN)
   refine hK.out _ _ (hG.s HN.out.hb) (λ_=>?_)
   try (simp only [Act.put,qz])
   exact PR hG HN.out _ _ _ e
  ·exact hG.err _ _ W2 (h.hb.trans (bW.mono h.hb.size)) (Or.inl bad) rfl rfl rfl
 ·have HN:=qh h.mk10
  clear hS h;go_simp;refine hK.out _ _ (hG.s HN.out.hb) (λ_=>?_)
  try (simp only [Act.put,qz])
  exact MU hG HN.out _ _ _ e
theorem Vq(hG:R4G B1 X E ra fa rc fc rs ps ds Wb Q)(h:RS false true false false false false rs ps Wb W MT kvs mR mP TB)(v4 v17 v23 v24:Value)(e:Nat→Value) :
  wpAnyH Tryz.prog .any Ap Q (R4S B1 ra fa rc fc rs.length ps.length) 7 #[false,true,true,true,false,true,true,false,false,false,false,false] { tmps:=r4f B1 X E ra fa rc fc rs.length ps.length v4 v17 (.map (some mR)) v23 v24 e,defers:=ds } W:=by
 unfold Ap Am r4f
 conv=>arg 3;whnf
 have hS:=hG.s h.hb;refine wpAnyH_ready (rs:=[0,7,10]) (by kernel_rfl) (by simp) ?_;refine AllReadyH.cons (o:=_) rfl (λK1 hK=>?_) (AllReadyH.cons (o:=_) rfl (λK2 hK=>?_) (AllReadyH.cons (o:=_) rfl (λK3 hK=>?_) AllReadyH.nil))
 ·have hA:=@run_makeMap Tryz.prog
  have HN:=qh h.mk0;clear hS h;go_simp;refine hK.out _ _ (hG.s HN.out.hb) (λ_=>?_)
  try (simp only [Act.put,qz])
  exact PR hG HN.out _ _ _ e
 ·have HT:=qh (hG.t43 W h.hb)
  clear hS;go_simp;go_at_call 124;refine HT.out.mono ?_;rintro e2 W2 ⟨(⟨okN,mN,gN,rfl,hN⟩|⟨bad,rfl⟩),bW⟩
  ·have HN:=qh (h.mk7 bW gN hN okN)
   refine hK.out _ _ (hG.s HN.out.hb) (λ_=>?_)
   try (simp only [Act.put,qz])
   exact Tw hG HN.out _ _ _ e
  ·exact hG.err _ _ W2 (h.hb.trans (bW.mono h.hb.size)) (Or.inr bad) rfl rfl rfl
 ·have HN:=qh h.mk10
  clear hS h;go_simp;refine hK.out _ _ (hG.s HN.out.hb) (λ_=>?_)
  try (simp only [Act.put,qz])
  exact MV hG HN.out _ _ _ e
theorem UM(hG:R4G B1 X E ra fa rc fc rs ps ds Wb Q)(h:RS false false false false false true rs ps Wb W MT kvs mR mP TB)(v17 v20 v23 v24:Value)(e:Nat→Value) :
  wpAnyH Tryz.prog .any Ap Q (R4S B1 ra fa rc fc rs.length ps.length) 7 #[false,true,true,false,false,true,true,false,false,false,true,false] { tmps:=r4f B1 X E ra fa rc fc rs.length ps.length (.pointer (some ⟨TB,0,none⟩)) v17 v20 v23 v24 e,defers:=ds } W:=by
 unfold Ap Am r4f
 conv=>arg 3;whnf
 have hS:=hG.s h.hb;refine wpAnyH_ready (rs:=[0,3]) (by kernel_rfl) (by simp) ?_;refine AllReadyH.cons (o:=_) rfl (λK1 hK=>?_) (AllReadyH.cons (o:=_) rfl (λK2 hK=>?_) AllReadyH.nil)
 ·have hA:=@run_makeMap Tryz.prog
  have HN:=qh h.mk0;clear hS h;go_simp;refine hK.out _ _ (hG.s HN.out.hb) (λ_=>?_)
  try (simp only [Act.put,qz])
  exact MU hG HN.out _ _ _ e
 ·have HT:=qh (hG.t41 W h.hb)
  clear hS;go_simp;go_at_call 122;refine HT.out.mono ?_;rintro e2 W2 ⟨(⟨okN,mN,gN,rfl,hN⟩|⟨bad,rfl⟩),bW⟩
  ·have HN:=qh (h.mk3 bW gN hN okN)
   refine hK.out _ _ (hG.s HN.out.hb) (λ_=>?_)
   try (simp only [Act.put,qz])
   exact MV hG HN.out _ _ _ e
  ·exact hG.err _ _ W2 (h.hb.trans (bW.mono h.hb.size)) (Or.inl bad) rfl rfl rfl
theorem Vr(hG:R4G B1 X E ra fa rc fc rs ps ds Wb Q)(h:RS false false false false false false rs ps Wb W MT kvs mR mP TB)(v4 v17 v20 v23 v24:Value)(e:Nat→Value) :
  wpAnyH Tryz.prog .any Ap Q (R4S B1 ra fa rc fc rs.length ps.length) 8 #[false,true,true,false,false,true,true,false,false,false,false,false] { tmps:=r4f B1 X E ra fa rc fc rs.length ps.length v4 v17 v20 v23 v24 e,defers:=ds } W:=by
 unfold Ap Am r4f
 conv=>arg 3;whnf
 have hS:=hG.s h.hb;refine wpAnyH_ready (rs:=[0,3,10]) (by kernel_rfl) (by simp) ?_;refine AllReadyH.cons (o:=_) rfl (λK1 hK=>?_) (AllReadyH.cons (o:=_) rfl (λK2 hK=>?_) (AllReadyH.cons (o:=_) rfl (λK3 hK=>?_) AllReadyH.nil))
 ·have hA:=@run_makeMap Tryz.prog
  have HN:=qh h.mk0;clear hS h;go_simp;refine hK.out _ _ (hG.s HN.out.hb) (λ_=>?_)
  try (simp only [Act.put,qz])
  exact Vp hG HN.out _ _ _ _ e
 ·have HT:=qh (hG.t41 W h.hb)
  clear hS;go_simp;go_at_call 122;refine HT.out.mono ?_;rintro e2 W2 ⟨(⟨okN,mN,gN,rfl,hN⟩|⟨bad,rfl⟩),bW⟩
  ·have HN:=qh (h.mk3 bW gN hN okN)
   refine hK.out _ _ (hG.s HN.out.hb) (λ_=>?_)
   try (simp only [Act.put,qz])
   exact Vq hG HN.out _ _ _ _ e
  ·exact hG.err _ _ W2 (h.hb.trans (bW.mono h.hb.size)) (Or.inl bad) rfl rfl rfl
 ·have HN:=qh h.mk10
  clear hS h;go_simp;refine hK.out _ _ (hG.s HN.out.hb) (λ_=>?_)
  try (simp only [Act.put,qz])
  exact UM hG HN.out _ _ _ _ e
end
theorem RE{ds:List Deferred}{Q:Exit→Act→World→Prop}(B1 X E:Nat)(ra fa:Option Addr)(rc fc:Nat)(rs:List Rol)(ps:List Ph)(Wb:World)(hG:R4G B1 X E ra fa rc fc rs ps ds Wb Q)(W:World)(hb:Below Wb.heap.size Wb W)(e0 e4 e5 e6 e7 e8 e9 ea eb ec ed ee ef eg eh ei ej ek el em en eo ep eq er es et eu ev ew ex ey ez eA eB eC eD eE eF eG eH eI eJ eK eL eM eN eO eP eQ eR eS eT eU eV eW eX eY eZ aa ab ac ae af ag ah ai aj ak al am an ao ap aq ar au av aw ax ay az aA aB aC aD aE aF aG aH aI aJ:Value) :
  wpAnyH Tryz.prog .any Ap Q (R4S B1 ra fa rc fc rs.length ps.length) 8 #[false,true,true,false,false,true,true,false,false,false,false,false] { tmps:=#[e0,.pointer (some ⟨B1,0,none⟩),.pointer (some ⟨X,0,none⟩),.pointer (some ⟨E,0,none⟩),e4,e5,e6,e7,e8,e9,ea,eb,ec,ed,ee,ef,eg,eh,.pointer (some ⟨B1,6,none⟩),.slice ra rs.length rc,ei,.pointer (some ⟨B1,10,none⟩),.slice fa ps.length fc,ej,ek,el,em,en,eo,ep,eq,er,es,et,eu,ev,ew,ex,ey,ez,eA,eB,eC,eD,eE,eF,eG,eH,eI,eJ,eK,eL,eM,eN,eO,eP,eQ,eR,eS,eT,eU,eV,eW,eX,eY,eZ,aa,ab,ac,ae,af,ag,ah,ai,aj,ak,al,am,an,ao,ap,aq,ar,au,av,aw,ax,ay,az,aA,aB,aC,aD,aE,aF,aG,aH,aI,aJ],defers:=ds } W :=
 Vr (mR:=0) (mP:=0) (TB:=0) (MT:=0) (kvs:=[]) hG ⟨hb,λh=>(by cases h),λh=>(by cases h),λh=>(by cases h),λh=>(by cases h),λh=>(by cases h),λh=>(by cases h)⟩ e4 eh ei ej ek (λk=>[e0,undef,undef,undef,e4,e5,e6,e7,e8,e9,ea,eb,ec,ed,ee,ef,eg,eh,undef,undef,ei,undef,undef,ej,ek,el,em,en,eo,ep,eq,er,es,et,eu,ev,ew,ex,ey,ez,eA,eB,eC,eD,eE,eF,eG,eH,eI,eJ,eK,eL,eM,eN,eO,eP,eQ,eR,eS,eT,eU,eV,eW,eX,eY,eZ,aa,ab,ac,ae,af,ag,ah,ai,aj,ak,al,am,an,ao,ap,aq,ar,au,av,aw,ax,ay,az,aA,aB,aC,aD,aE,aF,aG,aH,aI,aJ].getD k undef)
end
end Go.Proofs.YtbkemlgfdklpfaaGreatDoor
