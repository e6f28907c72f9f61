/- Contracts and plain laws on the way to the statement: part 11. -/
import Derived.Test.YtbkemlgfdklpfaaGreatDoorV6
import Derived.Test.YtbkemlgfdklpfaaGreatDoorV9
import Derived.Test.YtbkemlgfdklpfaaGreatDoorV4
set_option linter.unusedVariables false
set_option linter.unusedSimpArgs false
set_option maxRecDepth 100000
set_option maxHeartbeats 16000000
namespace Go.Proofs.YtbkemlgfdklpfaaGreatDoor
open Go.Value (int)
open Go.IntKind (i64)
section
open Go Go.RowKit
def CT(r:Rol):List Value:=[sv r.name,int i64 r.x,int i64 r.y,int i64 r.face]
def BS(t:Tmp):List Value:=[int i64 t.bar,int i64 t.ticks,int i64 t.step]
def Cx(p:Pau):List Value:=[int i64 p.bar,int i64 p.kind,int i64 p.lo,int i64 p.hi]
def Cw(s:Con):List Value:=[int i64 s.frm,int i64 s.to,int i64 s.lo,int i64 s.hi]
structure Ph where
 name:Nm
 ia:Option Addr
 ic:Nat
 its:Lt
def Ph.strip(p:Ph):Phr:=⟨p.name,p.its.strip⟩
def Ph.val(p:Ph):Value:=.slice p.ia p.its.len p.ic
def Ph.refsL(p:Ph):List RefL:=p.its.refsL (blk p.ia) (off p.ia)
def Ph.Its(w:World)(p:Ph):Prop:=(p.its.len=0∨p.ia=some ⟨blk p.ia,off p.ia,none⟩)∧p.its.len≤maxLen∧p.its.At w (blk p.ia) (off p.ia)
def Bk(w:World)(b:Nat):Nat→List Ph→Prop
 | _,[]=>True
 | o,p::r=>(w.cell? ⟨b,o,none⟩=some (sv p.name)∧w.cell? ⟨b,o+1,none⟩=some p.val∧p.Its w)∧Bk w b (o+2) r
def Ar:List Ph→List RefL
 | []=>[]
 | p::r=>p.refsL++Ar r
def Bw(w:World)(b:Nat):Nat→List Dan→Prop
 | _,[]=>True
 | o,d::r=>(w.cell? ⟨b,o,none⟩=some (sv d.rn)∧w.cell? ⟨b,o+2,none⟩=some (sv d.pn)∧w.cell? ⟨b,o+4,none⟩=some (int i64 d.bar)∧w.cell? ⟨b,o+5,none⟩=some (.bool d.mirror))∧Bw w b (o+6) r
def Ao(b:Nat):Nat→List Dan→List RefL
 | _,[]=>[]
 | o,d::r=>⟨b,o,1,d.rn⟩::⟨b,o+2,2,d.pn⟩::Ao b (o+6) r
structure Ls where
 name:Nm
 wd:Int
 dp:Int
 bars:Int
 t0:Int
 t1:Int
 ra:Option Addr
 rc:Nat
 roles:List Rol
 ta:Option Addr
 tc:Nat
 tempos:List Tmp
 ua:Option Addr
 uc:Nat
 pauses:List Pau
 sa:Option Addr
 sc:Nat
 spans:List Con
 fa:Option Addr
 fc:Nat
 phrases:List Ph
 da:Option Addr
 dc:Nat
 dances:List Dan
def Ls.strip(s:Ls):Sc:=⟨s.name,s.wd,s.dp,s.bars,s.t0,s.t1,s.roles,s.tempos,s.pauses,s.spans,s.phrases.map Ph.strip,s.dances⟩
def Ls.cells(s:Ls):Array Value:=#[sv s.name,int i64 s.wd,int i64 s.dp,int i64 s.bars,int i64 s.t0,int i64 s.t1,.slice s.ra s.roles.length s.rc,.slice s.ta s.tempos.length s.tc,.slice s.ua s.pauses.length s.uc,.slice s.sa s.spans.length s.sc,.slice s.fa s.phrases.length s.fc,.slice s.da s.dances.length s.dc]
def Ls.val(s:Ls):Value:=.agg s.cells
def Ls.refs(s:Ls):List RefL:=Ar s.phrases++Ao (blk s.da) (off s.da) s.dances
structure Ls.At(w:World)(s:Ls):Prop where
 roles:IsRow CT 4 w (.slice s.ra s.roles.length s.rc) s.roles
 tempos:IsRow BS 3 w (.slice s.ta s.tempos.length s.tc) s.tempos
 pauses:IsRow Cx 4 w (.slice s.ua s.pauses.length s.uc) s.pauses
 spans:IsRow Cw 4 w (.slice s.sa s.spans.length s.sc) s.spans
 pform:s.phrases=[]∨s.fa=some ⟨blk s.fa,off s.fa,none⟩
 plen:s.phrases.length≤maxLen
 phrases:Bk w (blk s.fa) (off s.fa) s.phrases
 dform:s.dances=[]∨s.da=some ⟨blk s.da,off s.da,none⟩
 dlen:s.dances.length≤maxLen
 dances:Bw w (blk s.da) (off s.da) s.dances
theorem Ie:∀ps:List Ph,(Ar ps).map RefL.key=(ps.map Ph.strip).flatMap λp=>p.items.refs
 | []=>rfl
 | p::r=>by simp [Ar,Ph.refsL,Lt.refsL_key,Ie r,Ph.strip]
theorem G9(b:Nat):∀(o:Nat) (ds:List Dan),(Ao b o ds).map RefL.key=ds.flatMap λd=>[(1,d.rn),(2,d.pn)]
 | _,[]=>rfl
 | o,d::r=>by simp [Ao,RefL.key,G9 b (o+6) r]
theorem Ls.refs_key(s:Ls):s.refs.map RefL.key=s.strip.refs:=by
 unfold Ls.refs Sc.refs Ls.strip;rw [List.map_append,Ie,G9]
theorem Ph.Its.below{w w':World}{p:Ph}(h:p.Its w)(hb:Below w.heap.size w w'):p.Its w':=⟨h.1,h.2.1,h.2.2.below hb⟩
theorem Bd{w w':World}(hb:Below w.heap.size w w'){b:Nat}:∀{o:Nat} {ps:List Ph},Bk w b o ps→Bk w' b o ps
 | _,[],_=>trivial
 | _,_::_,⟨⟨h1,h2,h3⟩,h⟩=>⟨⟨Ad hb h1,Ad hb h2,h3.below hb⟩,Bd hb h⟩
theorem Dp{w w':World}(hb:Below w.heap.size w w'){b:Nat}:∀{o:Nat} {ds:List Dan},Bw w b o ds→Bw w' b o ds
 | _,[],_=>trivial
 | _,_::_,⟨⟨h1,h2,h3,h4⟩,h⟩=>⟨⟨Ad hb h1,Ad hb h2,Ad hb h3,Ad hb h4⟩,Dp hb h⟩
theorem Ls.At.below{w w':World}{s:Ls}(h:s.At w)(hb:Below w.heap.size w w'):s.At w' :=
 ⟨h.roles.below hb (qn _),h.tempos.below hb (qn _),h.pauses.below hb (qn _),h.spans.below hb (qn _),h.pform,h.plen,Bd hb h.phrases,h.dform,h.dlen,Dp hb h.dances⟩
theorem Pz{w:World}{b:Nat}{o:Nat}{ms:List Mov}(h:Be w b o ms)(hm:ms≠[]):b<w.heap.size:=by
 cases ms with
 | nil=>exact absurd rfl hm
 | cons m r=>exact CN h.1.1
theorem Lt.At.lt{w:World}{T:Lt}{b o:Nat}(h:T.At w b o)(hl:T.len≠0):b<w.heap.size:=by
 cases T with
 | nil=>exact absurd rfl hl
 | cons=>exact CN h.1.1
theorem Lt.At.blocks_lt{w:World}:∀{T:Lt} {b o:Nat},T.At w b o→∀c∈T.blocks,c<w.heap.size
 | .nil,_,_,_,_,h=>by cases h
 | .cons k n un ia ic its ma mc ms r,b,o,⟨_,⟨m1,m2,m3⟩,⟨i1,i2,i3⟩,hr⟩,c,hc=>by
  simp only [Lt.blocks,List.mem_append] at hc;rcases hc with hc|hc|hc|hc
  ·split at hc
   ·cases hc
   ·rename_i hm
    rw [List.mem_singleton.1 hc];exact Pz m3 hm
  ·split at hc
   ·cases hc
   ·rename_i hm
    rw [List.mem_singleton.1 hc];exact i3.lt hm
  ·exact i3.blocks_lt c hc
  ·exact hr.blocks_lt c hc
end
end Go.Proofs.YtbkemlgfdklpfaaGreatDoor
