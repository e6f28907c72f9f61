/- Contracts and plain laws on the way to the statement: part 7. -/
import Derived.Test.YtbkemlgfdklpfaaGreatDoorV6
import Derived.Maps.Own
import Derived.Test.YtbkemlgfdklpfaaGreatDoorV4
set_option linter.unusedVariables false
set_option linter.unusedSimpArgs false
set_option maxRecDepth 100000
set_option maxHeartbeats 16000000
namespace Go.Proofs.YtbkemlgfdklpfaaGreatDoor
open Go.Value (int)
open Go.IntKind (i64)
section
open Go Go.RowKit
section
variable {κ:Type} {f:κ→Value}
structure KeyOf(d:TypeDesc)(f:κ→Value):Prop where
 isK:∀a,MapKept.IsKey d (f a)
 inj:∀a b,f a=f b→a=b
def MapAt(f:κ→Value)(w:World)(b:Nat)(kvs:List (κ×Value)):Prop :=
 ∃es clock,w.heap[b]?=some (.map es clock)∧es.toList.map (λe=>(e.key,e.val))=kvs.map (λp=>(f p.1,p.2))
theorem MapAt.lt{w:World}{b:Nat}{kvs:List (κ×Value)}(h:MapAt f w b kvs):b<w.heap.size:=by
 obtain ⟨es,c,h,_⟩:=h;exact (qs.1 h).1
theorem MapAt.of_block{w w':World}{b:Nat}{kvs:List (κ×Value)}(h:MapAt f w b kvs)(hb:w'.heap[b]?=w.heap[b]?):MapAt f w' b kvs:=by
 obtain ⟨es,c,h,h2⟩:=h;exact ⟨es,c,hb.trans h,h2⟩
theorem MapAt.below{w w':World}{b n:Nat}{kvs:List (κ×Value)}(h:MapAt f w b kvs)(hb:Below n w w')(hn:b<n):MapAt f w' b kvs:=h.of_block (hb.block _ hn)
theorem MapAt.drewN{w:World}{b:Nat}{kvs:List (κ×Value)}(h:MapAt f w b kvs)(n:Nat):MapAt f (w.drewN n) b kvs:=h
theorem MapAt.new(w:World):MapAt f (w.alloc (.map #[] 0)) w.heap.size []:=⟨#[],0,heap_alloc_new w _,rfl⟩
variable [DecidableEq κ]
theorem KeyOf.same{d:TypeDesc}(h:KeyOf d f)(a b:κ):Instr.sameNow d (f a) (f b)=some (decide (a=b)):=by
 obtain ⟨r,h1,h2⟩:=MapKept.sameNow_of_keys (h.isK a) (h.isK b);rw [h1]
 congr 1
 by_cases hA:a=b
 ·subst hA;rw [h2.2 rfl];simp
 ·have:r≠true:=λe=>hA (h.inj _ _ (h2.1 e))
  simp [hA,this]
def Au(kvs:List (κ×Value))(k:κ):Option Value:=(kvs.find? (λp=>decide (p.1=k))).map (·.2)
def Bn(kvs:List (κ×Value))(k:κ)(v:Value):List (κ×Value) :=
 if (Au kvs k).isSome then kvs.map (λp=>if p.1=k then (p.1,v) else p) else kvs++[(k,v)]
theorem GU{d:TypeDesc}(hf:KeyOf d f)(k:κ):∀(es:List MapEntry) (kvs:List (κ×Value)) (i:Nat),es.map (λe=>(e.key,e.val))=kvs.map (λp=>(f p.1,p.2)) →
  (Au kvs k=none→Instr.findNow d (f k) es i=some none) ∧
  (∀v,Au kvs k=some v→∃j,Instr.findNow d (f k) es i=some (some (i+j,v))∧∃kv,kvs[j]?=some kv∧kv.1=k∧∀j',j'<j→∀p,kvs[j']?=some p→p.1≠k)
 | [],[],i,_=>by simp [Au,Instr.findNow]
 | [],_::_,_,h=>by simp at h
 | _::_,[],_,h=>by simp at h
 | e::es,p::kvs,i,h=>by
  simp only [List.map_cons,List.cons.injEq,Prod.mk.injEq] at h;obtain ⟨⟨h1,h2⟩,h3⟩:=h;obtain ⟨i1,i2⟩:=GU hf k es kvs (i+1) h3;unfold Au at i1 i2 ⊢;by_cases hk:p.1=k
  ·refine ⟨λhn=>?_,λv hv=>⟨0,?_,p,rfl,hk,λj' hA=>by omega⟩⟩
   ·rw [List.find?_cons_of_pos (by simpa using hk)] at hn;simp at hn
   ·rw [List.find?_cons_of_pos (by simpa using hk)] at hv
    simp at hv;have hs:Instr.sameNow d (f k) e.key=some true:=by rw [h1,hf.same];simp [hk]
    simp [Instr.findNow,hs,h2,hv]
  ·have hB:decide (k=p.1)=false:=by simpa using λe=>hk e.symm
   have hs:Instr.sameNow d (f k) e.key=some false:=by rw [h1,hf.same,hB]
   rw [List.find?_cons_of_neg (by simpa using hk)];unfold Instr.findNow;rw [hs];refine ⟨i1,λv hv=>?_⟩;obtain ⟨j,e1,kv,e2,e3,e4⟩:=i2 v hv;refine ⟨j+1,by simpa [Nat.add_assoc,Nat.add_comm 1] using e1,kv,by simpa using e2,e3,λj' hA q hq=>?_⟩;rcases j' with _|j'
   ·simp at hq;subst hq;exact hk
   ·exact e4 j' (by omega) q (by simpa using hq)
section
variable {P:Program} {T K E:TypeId} {d:TypeDesc}
theorem Bi(hf:KeyOf d f)(hT:P.underlying T=some (.map K E))(hK:P.underlying K=some d){w:World}{b:Nat}{kvs:List (κ×Value)}(h:MapAt f w b kvs)(k:κ){z:Value}(hz:(zeroValue E).run P w=.ok z w)(ok:Bool) :
  (Instr.lookup T (.map (some b)) (f k) ok).run P w=.ok (if ok then .tuple #[(Au kvs k).getD z,.bool (Au kvs k).isSome] else (Au kvs k).getD z) w:=by
 obtain ⟨es,c,hb,he⟩:=h;obtain ⟨f1,f2⟩:=GU hf k es.toList kvs 0 he;have hc:(Instr.checkKey es.isEmpty 10000 K (f k)).run P w=.ok () w:=MapKept.run_checkKey hK (hf.isK _) _ _
 cases hg:Au kvs k with
 | none =>
  have fk:=MapKept.run_findKey (w:=w) hK (f1 hg);cases ok<;>simp [Instr.lookup,run_underlying hT,MapKept.run_getObj_map hb,hc,fk,hz,Result.andThen]
 | some v =>
  obtain ⟨j,fj,_⟩:=f2 v hg;have fk:=MapKept.run_findKey (w:=w) hK fj;cases ok<;>simp [Instr.lookup,run_underlying hT,MapKept.run_getObj_map hb,hc,fk,Result.andThen]
theorem El(w:World)(b:Nat)(o:Obj):w.grownBy { w with heap:=w.heap.setIfInBounds b o } (some b) :=
 ⟨rfl,rfl,rfl,by simp,λk _ hk=>by
  show (w.heap.setIfInBounds b o)[k]?=w.heap[k]?
  exact Array.getElem?_setIfInBounds_ne (λe=>hk (by rw [e]))⟩
theorem Bo(w:World)(b:Nat)(o:Obj){n:Nat}(hn:n≤b):Below n w { w with heap:=w.heap.setIfInBounds b o } :=
 ⟨rfl,rfl,rfl,by simp,λk hk=>by
  show (w.heap.setIfInBounds b o)[k]?=w.heap[k]?
  exact Array.getElem?_setIfInBounds_ne (by omega)⟩
theorem Pq{kvs:List (κ×Value)}{k:κ}{v:Value}{j:Nat}(es:List MapEntry)(he:es.map (λe=>(e.key,e.val))=kvs.map (λp=>(f p.1,p.2)))(hk:∀p,kvs[j]?=some p→p.1=k)(hD:∀j',j'≠j→∀p,kvs[j']?=some p→p.1≠k) :
  (es.modify j λe=>{ e with key:=f k,val:=v }).map (λe=>(e.key,e.val))=(kvs.map (λp=>if p.1=k then (p.1,v) else p)).map (λp=>(f p.1,p.2)):=by
 apply List.ext_getElem?;intro i;have h1:=congrArg (λl=>l[i]?) he;simp only [List.getElem?_map] at h1;rw [List.getElem?_map,List.getElem?_modify,List.map_map,List.getElem?_map]
 cases hA:kvs[i]? with
 | none=>rw [hA] at h1;cases hB:es[i]? with
  | none=>simp
  | some e=>rw [hB] at h1;simp at h1
 | some p =>
  rw [hA] at h1
  cases hB:es[i]? with
  | none=>rw [hB] at h1;simp at h1
  | some e =>
   rw [hB] at h1;simp only [Option.map_some,Option.some.injEq,Prod.mk.injEq] at h1;by_cases hC:j=i
   ·subst hC
    simp [hk p hA]
   ·have:=hD i (λe=>hC e.symm) p hA
    simp [hC,this,h1]
def AT(kvs:List (κ×Value)):Prop:=(kvs.map (·.1)).Nodup
theorem Bj(hf:KeyOf d f)(hT:P.underlying T=some (.map K E))(hK:P.underlying K=some d){w:World}{b:Nat}{kvs:List (κ×Value)}(h:MapAt f w b kvs)(hn:AT kvs)(k:κ)(v:Value) :
  ∃o,(Instr.mapUpdate T (.map (some b)) (f k) v).run P w=.ok () { w with heap:=w.heap.setIfInBounds b o }∧MapAt f { w with heap:=w.heap.setIfInBounds b o } b (Bn kvs k v):=by
 obtain ⟨es,c,hb,he⟩:=h;obtain ⟨f1,f2⟩:=GU hf k es.toList kvs 0 he;have hc:(Instr.checkKey false 10000 K (f k)).run P w=.ok () w:=MapKept.run_checkKey hK (hf.isK _) _ _;unfold Bn
 cases hg:Au kvs k with
 | none =>
  have fk:=MapKept.run_findKey (w:=w) hK (f1 hg);refine ⟨.map (es.push ⟨f k,v,c⟩) (c+1),?_,_,_,(MapKept.heap_set hb).1,by simp [he]⟩;simp [Instr.mapUpdate,run_underlying hT,MapKept.run_getObj_map hb,hc,fk,MapKept.run_setObj_map _ hb,Result.andThen]
 | some v0 =>
  obtain ⟨j,fj,kv,e1,e2,e3⟩:=f2 v0 hg;have fk:=MapKept.run_findKey (w:=w) hK fj;have hB:j<kvs.length:=(ql.1 e1).1;have hC:es.toList.length=kvs.length:=by simpa using congrArg List.length he
  obtain ⟨e,hA⟩:∃e,es[j]?=some e:=⟨_,Array.getElem?_eq_getElem (by rw [← Array.length_toList,hC];exact hB)⟩
  have hD:e.key=f k:=by
   have h1:=congrArg (λl=>l[j]?) he;simp only [List.getElem?_map,e1,Array.getElem?_toList,hA,Option.map_some,Option.some.injEq,Prod.mk.injEq] at h1;rw [h1.1,e2]
  have hE:(Instr.keyThatStays (f k) (f k)).run P w=.ok (f k) w:=MapKept.run_keyThatStays (hf.isK _);refine ⟨.map (es.modify j λe=>{ e with key:=f k,val:=v }) c,?_,_,_,(MapKept.heap_set hb).1,?_⟩
  ·simp [Instr.mapUpdate,run_underlying hT,MapKept.run_getObj_map hb,hc,fk,hA,hD,hE,MapKept.run_setObj_map _ hb,Result.andThen]
  ·rw [Array.toList_modify]
   simp only [Option.isSome_some,if_true];refine Pq es.toList he (λp hp=>by rw [e1] at hp;cases hp;exact e2) (λj' hF p hp hG=>?_);have hH:j'<kvs.length:=(ql.1 hp).1;have n1:(kvs.map (·.1))[j']?=some k:=by rw [List.getElem?_map,hp];simp [hG]
   have n2:(kvs.map (·.1))[j]?=some k:=by rw [List.getElem?_map,e1];simp [e2]
   exact hF ((List.getElem?_inj (by simpa using hH) hn).1 (n1.trans n2.symm))
theorem BP{kvs:List (κ×Value)}(h:AT kvs)(k:κ)(v:Value):AT (Bn kvs k v):=by
 unfold AT Bn at *
 cases hg:Au kvs k with
 | some v0 =>
  simp only [Option.isSome_some,if_true,List.map_map]
  have:(kvs.map ((λp=>p.1) ∘ λp=>if p.1=k then (p.1,v) else p))=kvs.map (·.1):=by
   apply List.map_congr_left;intro p _;simp only [Function.comp];split<;>rfl
  rw [this];exact h
 | none =>
  simp only [Option.isSome_none,Bool.false_eq_true,if_false,List.map_append,List.map_cons,List.map_nil];rw [List.nodup_append];refine ⟨h,by simp,?_⟩;intro a ha b hb;simp only [List.mem_singleton] at hb;subst hb;rintro rfl;obtain ⟨p,hp,rfl⟩:=List.mem_map.1 ha;unfold Au at hg;simp only [Option.map_eq_none_iff,List.find?_eq_none] at hg;exact hg p hp (by simp)
theorem FV(hf:KeyOf d f)(w:World){ops:Array Oper}{rest:List Oper}{o:Oper}{a:Act}{Q:Exit→Act→World→Prop}
  (hg:o.guard=none) (m x v:Operand) (t:TypeId) (hA:o.op=Op.insert t m x v∨o.op=Op.mapUpdate t m x v) (hT:P.underlying t=some (.map K E)) (hK:P.underlying K=some d) (b:Nat) (kvs:List (κ×Value))
  (hm:a.eval m=.map (some b)) (h:MapAt f w b kvs) (hn:AT kvs) (k:κ) (hx:a.eval x=f k)
  (hQ:∀ob,MapAt f { w with heap:=w.heap.setIfInBounds b ob } b (Bn kvs k (a.eval v))→wpList P ops Q rest (a.put o.dst undef) { w with heap:=w.heap.setIfInBounds b ob }) :
  wpList P ops Q (o::rest) a w:=by
 refine wpList_plain hg λK' hC=>?_
 obtain ⟨ob,hB,r1⟩:=Bj hf hT hK h hn k (a.eval v);unfold Oper.wp;rcases hA with hA|hA<;>simp [execOp,hA,hm,hx,hB,Result.andThen]<;>exact hC _ _ (hQ ob r1)
theorem FW(hf:KeyOf d f)(w:World){ops:Array Oper}{rest:List Oper}{o:Oper}{a:Act}{Q:Exit→Act→World→Prop}
  (hg:o.guard=none) (m x:Operand) (t:TypeId) (ok:Bool) (hB:o.op=Op.lookup t m x ok) (hT:P.underlying t=some (.map K E)) (hK:P.underlying K=some d) {z:Value} (hz:(zeroValue E).run P w=.ok z w) (b:Nat) (kvs:List (κ×Value))
  (hm:a.eval m=.map (some b)) (h:MapAt f w b kvs) (k:κ) (hx:a.eval x=f k)
  (hQ:wpList P ops Q rest (a.put o.dst (if ok then .tuple #[(Au kvs k).getD z,.bool (Au kvs k).isSome] else (Au kvs k).getD z)) w) :
  wpList P ops Q (o::rest) a w:=by
 refine wpList_plain hg λK' hC=>?_
 have hA:=Bi hf hT hK h k hz ok;unfold Oper.wp;simp [execOp,hB,hm,hx,hA,Result.andThen];exact hC _ _ hQ
end
end
end
section
open Go
theorem JZ:KeyOf (κ:=Nm) .string sv:=⟨λ_=>trivial,λ_ _ h=>TT h⟩
def Dj:List Nm→Nat→List (Nm×Value)→List (Nm×Value)
 | [],_,kvs=>kvs
 | s::r,i,kvs=>Dj r (i+1) (Bn kvs s (int i64 (i:Int)))
def BB(l:List Nm):List (Nm×Value):=Dj l 0 []
theorem Co{kvs:List (Nm×Value)}{s:Nm}:(Au kvs s).isSome=true↔s∈kvs.map (·.1):=by
 unfold Au;rw [Option.isSome_map,List.find?_isSome];simp
theorem Nx{kvs:List (Nm×Value)}{s:Nm}{v:Value}:(Bn kvs s v).length=kvs.length+(if s∈kvs.map (·.1) then 0 else 1):=by
 unfold Bn;by_cases h:s∈kvs.map (·.1)
 ·rw [if_pos (Co.2 h),if_pos h];simp
 ·rw [if_neg (λe=>h (Co.1 e)),if_neg h];simp
theorem ES{kvs:List (Nm×Value)}{s:Nm}{v:Value}{x:Nm}:x∈(Bn kvs s v).map (·.1)↔x=s∨x∈kvs.map (·.1):=by
 unfold Bn;by_cases h:s∈kvs.map (·.1)
 ·rw [if_pos (Co.2 h)]
  have e:(kvs.map (λp=>if p.1=s then (p.1,v) else p)).map (·.1)=kvs.map (·.1):=by
   rw [List.map_map];apply List.map_congr_left;intro p _;simp only [Function.comp];split<;>rfl
  rw [e];exact ⟨Or.inr,λhx=>hx.elim (λe=>e▸h) id⟩
 ·rw [if_neg (λe=>h (Co.1 e))];simp [or_comm]
theorem Ji:∀(l:List Nm) (i:Nat) (kvs:List (Nm×Value)),(Dj l i kvs).length≤kvs.length+l.length∧((Dj l i kvs).length=kvs.length+l.length↔l.Nodup∧∀s∈l,s∉kvs.map (·.1))
 | [],i,kvs=>by simp [Dj]
 | s::r,i,kvs=>by
  obtain ⟨h1,h2⟩:=Ji r (i+1) (Bn kvs s (int i64 (i:Int)));unfold Dj;rw [Nx] at h1 h2;by_cases h:s∈kvs.map (·.1)
  ·rw [if_pos h] at h1 h2
   refine ⟨by simp only [List.length_cons];omega,⟨λe=>?_,λ⟨_,e⟩=>absurd h (e s (by simp))⟩⟩;simp only [List.length_cons] at e;omega
  ·rw [if_neg h] at h1 h2
   refine ⟨by simp only [List.length_cons];omega,?_⟩;rw [show kvs.length+(s::r).length=kvs.length+1+r.length by simp only [List.length_cons];omega,h2,List.nodup_cons]
   constructor
   ·rintro ⟨a,b⟩
    refine ⟨⟨λhs=>b s hs (ES.2 (Or.inl rfl)),a⟩,λx hx=>?_⟩;rcases List.mem_cons.1 hx with rfl|hx
    ·exact h
    ·exact λhk=>b x hx (ES.2 (Or.inr hk))
   ·rintro ⟨⟨a,b⟩,c⟩
    refine ⟨b,λx hx hk=>?_⟩;rcases ES.1 hk with rfl|hk
    ·exact a hx
    ·exact c x (List.mem_cons_of_mem _ hx) hk
theorem Eu{l:List Nm}:(BB l).length=l.length↔l.Nodup:=by
 have:=(Ji l 0 []).2;simpa [BB] using this
theorem Gj:∀(l:List Nm) (i:Nat) (kvs:List (Nm×Value)),l.Nodup→(∀s∈l,s∉kvs.map (·.1))→Dj l i kvs=kvs++(l.zipIdx i).map λp=>(p.1,int i64 (p.2:Int))
 | [],_,_,_,_=>by simp [Dj]
 | s::r,i,kvs,hn,hk=>by
  obtain ⟨h1,h2⟩:=List.nodup_cons.1 hn;have hs:=hk s (by simp);unfold Dj
  have e:Bn kvs s (int i64 (i:Int))=kvs++[(s,int i64 (i:Int))]:=by
   unfold Bn;rw [if_neg (λe=>hs (Co.1 e))]
  rw [e,Gj r (i+1) _ h2 (λx hx hm=>by
   rw [List.map_append,List.mem_append] at hm;rcases hm with hm|hm
   ·exact hk x (List.mem_cons_of_mem _ hx) hm
   ·simp at hm;subst hm;exact h1 hx)]
  simp [List.zipIdx_cons]
theorem Tg{x s:Nm}(h:¬x=s)(r:List Nm):List.idxOf s (x::r)=List.idxOf s r+1:=by
 rw [List.idxOf_cons];have:(x==s)=false:=by simpa using h
 rw [this];rfl
theorem Ky(s:Nm):∀(l:List Nm) (i:Nat),(((l.zipIdx i).map λp=>((p.1,Value.int .i64 (p.2:Int)):Nm×Value)).find? (λp=>decide (p.1=s))).map (·.2)=if s∈l then some (int i64 ((i+l.idxOf s:Nat):Int)) else none
 | [],i=>by simp
 | x::r,i=>by
  rw [List.zipIdx_cons,List.map_cons,List.find?_cons];by_cases h:x=s
  ·subst h;simp
  ·have h':s≠x:=λe=>h e.symm
   simp only [h,decide_false];rw [Ky s r (i+1)];by_cases hm:s∈r
   ·rw [if_pos hm,if_pos (List.mem_cons_of_mem _ hm),Tg h]
    congr 3;omega
   ·rw [if_neg hm,if_neg (by simp [hm,h'])]
theorem On{l:List Nm}(h:l.Nodup)(s:Nm):Au (BB l) s=if s∈l then some (int i64 ((l.idxOf s:Nat):Int)) else none:=by
 unfold BB Au;rw [Gj l 0 [] h (by simp),List.nil_append,Ky];simp
end
end Go.Proofs.YtbkemlgfdklpfaaGreatDoor
